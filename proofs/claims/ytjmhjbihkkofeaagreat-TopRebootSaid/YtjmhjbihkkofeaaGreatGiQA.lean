/- Plain proofs, part 0. -/
import Derived.Test.YtjmhjbihkkofeaaGreatGiAbC
import Derived.Test.YtjmhjbihkkofeaaGreatGiXS
set_option linter.unusedVariables false
set_option linter.unusedSimpArgs false
set_option maxRecDepth 100000
set_option linter.unusedSectionVars false
namespace Go.Ab
theorem ah {p:Prop}[Decidable p](h:p):decide p=true:=decide_eq_true h
theorem ak {p:Prop}[Decidable p](h:¬p):decide p=false:=decide_eq_false h
theorem Ig {p:Prop}[Decidable p](h:decide p=true):p:=of_decide_eq_true h
theorem kI {p:Prop}[Decidable p](h:decide p=false):¬p:=of_decide_eq_false h
theorem bD {p:Prop}[Decidable p]:(decide p=true)=p:=decide_eq_true_eq
theorem aj {α β:Type}(a:α)(f:α→Option β):(some a).bind f=f a:=rfl
theorem ao {α:Type}(a b:α):cond true a b=a:=rfl
theorem an {α:Type}(a b:α):cond false a b=b:=rfl
theorem aH (n:Nat):(n:Int).toNat=n:=rfl
theorem bH (a b:Bool):((a&&b)=true)=(a=true∧b=true):=Bool.and_eq_true a b
theorem aQ:(!true)=false:=rfl
theorem dJ:(!false)=true:=rfl
end Go.Ab
namespace Go.Ab
theorem qL {x:Int}(h1:-9223372036854775808≤x)(h2:x<9223372036854775808):zA x=x:=by
 unfold zA IntKind.wrap
 simp only[IntKind.bits,IntKind.signed,Bool.true_and]
 by_cases h:x%2^64≥2^(64-1)
 ·rw[if_pos (by simpa using h)];omega
 ·rw[if_neg (by simpa using h)];omega
theorem vI1 (x:Int):-9223372036854775808≤zA x:=by
 unfold zA IntKind.wrap
 simp only[IntKind.bits,IntKind.signed,Bool.true_and]
 by_cases h:x%2^64≥2^(64-1)
 ·rw[if_pos (by simpa using h)];omega
 ·rw[if_neg (by simpa using h)];omega
theorem yM8 (x:Int):zA x<9223372036854775808:=by
 unfold zA IntKind.wrap
 simp only[IntKind.bits,IntKind.signed,Bool.true_and]
 by_cases h:x%2^64≥2^(64-1)
 ·rw[if_pos (by simpa using h)];omega
 ·rw[if_neg (by simpa using h)];omega
theorem qM {i N:Nat}(h:i<N)(hN:N<9223372036854775808):zA ((i:Int)+1)=((i+1:Nat):Int):=by
 rw[qL (by omega) (by omega)];rfl
theorem ZZ {n:Int}(h:(Lit.int .i64 n).wf=true):-9223372036854775808≤n∧n<9223372036854775808:=by
 simp only[Lit.wf,bH,bD,IntKind.min,IntKind.max,IntKind.bits,IntKind.signed] at h
 simp at h
 omega
theorem qK (i n:Nat):zD (i:Int) n=decide (i<n):=by
 unfold zD
 simp
theorem eT {i:Int}{n:Nat}(h0:0≤i)(h1:i<n):zD i n=true:=by
 unfold zD
 simp;omega
theorem qX {n b:Nat}(h:n*b≤140737488355328)(h':n≤140737488355328):zU n b=true:=by
 unfold zU
 rw[Nat.ble_eq_true_of_le h,Nat.ble_eq_true_of_le h'];rfl
theorem qI (i n:Nat):decide ((i:Int)<(n:Int))=decide (i<n):=by simp
theorem nN (i n:Nat):decide ((i:Int)=(n:Int))=decide (i=n):=by
 by_cases h:i=n
 ·subst h;simp
 ·rw[ak h,ak (by omega)]
def qE (p:Nat→Bool):Nat→Nat→Bool
 |0,_=>true
 |c+1,i=>p i&&qE p c (i+1)
theorem Z0 {p:Nat→Bool}:∀{c i:Nat},qE p c i=true↔∀j,i≤j→j<i+c→p j=true
 |0,i=>by simp[qE];intro j h1 h2;omega
 |c+1,i=>by
  simp only[qE,bH,Z0 (c:=c)]
  constructor
  ·rintro⟨h1,h2⟩ j h3 h4
   by_cases e:j=i
   ·subst e;exact h1
   ·exact h2 j (by omega) (by omega)
  ·intro h
   exact⟨h i (Nat.le_refl i) (by omega),fun j h1 h2=>h j (by omega) (by omega)⟩
theorem fS {p:Nat→Bool}{c:Nat}:qE p c 0=true↔∀j,j<c→p j=true:=by
 rw[Z0]
 exact⟨fun h j hj=>h j (Nat.zero_le j) (by omega),fun h j _ hj=>h j (by omega)⟩
theorem Z1 {X:Type}{L:Nat→Int→Option X}{N:Nat}(ok:Nat→Bool)(a b:X)(bq:∀n,L (n+1) (N:Int)=some a)
  (aC:∀n i,i<N→L (n+1) (i:Int)=bif ok i then L n ((i+1:Nat):Int) else some b):∀c i n,i+c=N→c<n→L n (i:Int)=some (bif qE ok c i then a else b)
 |0,i,n,h,hn=>by
  obtain⟨n,rfl⟩:∃m,n=m+1:=⟨n-1,by omega⟩
  have:i=N:=by omega
  subst this
  exact bq n
 |c+1,i,n,h,hn=>by
  obtain⟨n,rfl⟩:∃m,n=m+1:=⟨n-1,by omega⟩
  rw[aC n i (by omega)]
  unfold qE
  cases ok i with
  |false=>rfl
  |true=>
   simp only[ao,Bool.true_and]
   exact Z1 ok a b bq aC c (i+1) n (by omega) (by omega)
theorem kJ {X:Type}{L:Nat→Int→Option X}{N:Nat}(ok:Nat→Bool)(a b:X)(bq:∀n,L (n+1) (N:Int)=some a)
  (aC:∀n i,i<N→L (n+1) (i:Int)=bif ok i then L n ((i+1:Nat):Int) else some b) {n:Nat} (hn:N<n):L n 0=some (bif qE ok N 0 then a else b):=
 Z1 ok a b bq aC N 0 n (by omega) hn
theorem Z2 {L:Nat→Int→Option (Unit⊕Int)}{N:Nat}(bad:Nat→Bool)(bq:∀n,L (n+1) (N:Int)=some (.inl ()))
  (aC:∀n i,i<N→L (n+1) (i:Int)=bif bad i then some (.inr (i:Int)) else L n ((i+1:Nat):Int)):
  ∀c i n,i+c=N→c<n→(qE (fun j=> !bad j) c i=true∧L n (i:Int)=some (.inl ()))∨∃x:Nat,i≤x∧x<N∧bad x=true∧(∀j,i≤j→j<x→bad j=false)∧qE (fun j=> !bad j) c i=false∧L n (i:Int)=some (.inr (x:Int))
 |0,i,n,h,hn=>by
  obtain⟨n,rfl⟩:∃m,n=m+1:=⟨n-1,by omega⟩
  have:i=N:=by omega
  subst this
  exact .inl ⟨rfl,bq n⟩
 |c+1,i,n,h,hn=>by
  obtain⟨n,rfl⟩:∃m,n=m+1:=⟨n-1,by omega⟩
  rw[aC n i (by omega)]
  unfold qE
  cases hb:bad i with
  |true=>exact .inr ⟨i,Nat.le_refl i,by omega,hb,fun j h1 h2=>absurd h1 (by omega),rfl,rfl⟩
  |false=>
   simp only[an,dJ,Bool.true_and]
   rcases Z2 bad bq aC c (i+1) n (by omega) (by omega) with h1|⟨x,x1,x2,x3,x4,x5,x6⟩
   ·exact .inl h1
   ·refine .inr ⟨x,by omega,x2,x3,fun j h1 h2=>?_,x5,x6⟩
    by_cases e:j=i
    ·subst e;exact hb
    ·exact x4 j (by omega) h2
theorem rW {L:Nat→Int→Option (Unit⊕Int)}{N:Nat}(bad:Nat→Bool)(bq:∀n,L (n+1) (N:Int)=some (.inl ()))
  (aC:∀n i,i<N→L (n+1) (i:Int)=bif bad i then some (.inr (i:Int)) else L n ((i+1:Nat):Int)) {n:Nat} (hn:N<n):
  ∃x:Unit⊕Int,L n 0=some x∧decide ((match x with|.inl _=>(-1:Int)|.inr y=>y)≥0)= !qE (fun j=> !bad j) N 0:=by
 rcases Z2 bad bq aC N 0 n (by omega) hn with⟨h1,h2⟩|⟨x,_,_,_,_,h5,h6⟩
 ·exact⟨_,h2,by rw[h1];rfl⟩
 ·exact⟨_,h6,by rw[h5];simp⟩
theorem Z3 {S X:Type}{L:Nat→Int→S→Option X}{N:Nat}(e:S→X)(inv:Nat→S→Prop)(bq:∀n s,inv N s→L (n+1) (N:Int) s=some (e s))
  (aC:∀n i s,i<N→inv i s→∃s',L (n+1) (i:Int) s=L n ((i+1:Nat):Int) s'∧inv (i+1) s'):
  ∀c i n s,i+c=N→c<n→inv i s→∃s',L n (i:Int) s=some (e s')∧inv N s'
 |0,i,n,s,h,hn,hs=>by
  obtain⟨n,rfl⟩:∃m,n=m+1:=⟨n-1,by omega⟩
  have:i=N:=by omega
  subst this
  exact⟨s,bq n s hs,hs⟩
 |c+1,i,n,s,h,hn,hs=>by
  obtain⟨n,rfl⟩:∃m,n=m+1:=⟨n-1,by omega⟩
  obtain⟨s',h1,h2⟩:=aC n i s (by omega) hs
  rw[h1]
  exact Z3 e inv bq aC c (i+1) n s' (by omega) (by omega) h2
theorem wC {S X:Type}{L:Nat→Int→S→Option X}{N:Nat}(e:S→X)(inv:Nat→S→Prop)(bq:∀n s,inv N s→L (n+1) (N:Int) s=some (e s))
  (aC:∀n i s,i<N→inv i s→∃s',L (n+1) (i:Int) s=L n ((i+1:Nat):Int) s'∧inv (i+1) s') {n:Nat} {s:S} (hn:N<n) (hs:inv 0 s):
  ∃s',L n 0 s=some (e s')∧inv N s':=Z3 e inv bq aC N 0 n s (by omega) hn hs
def zL {α:Type}(g:α→Int):List α→Int
 |[]=>0
 |p::l=>g p+zL g l
theorem iM {α:Type}(g:α→Int):∀(l m:List α),zL g (l++m)=zL g l+zL g m
 |[],m=>by simp[zL]
 |p::l,m=>by
  show g p+zL g (l++m)=g p+zL g l+zL g m
  rw[iM g l m];omega
theorem yi {α:Type}{g:α→Int}{A:Int}:∀{l:List α},(∀p∈l,-A≤g p∧g p≤A)→-(l.length*A)≤zL g l∧zL g l≤l.length*A
 |[],_=>by simp[zL]
 |p::l,h=>by
  have h1:=h p (List.mem_cons_self ..)
  have h2:=yi (l:=l) fun q hq=>h q (List.mem_cons_of_mem _ hq)
  have e:((p::l).length:Int)*A=(l.length:Int)*A+A:=by
   rw[List.length_cons,Int.natCast_add,Int.add_mul];simp
  rw[e]
  show-_≤g p+zL g l∧g p+zL g l≤_
  omega
theorem rY {α:Type}{g:α→Int}:∀{l:List α},(∀p∈l,0≤g p)→0≤zL g l
 |[],_=>by simp[zL]
 |p::l,h=>by
  have h1:=h p (List.mem_cons_self ..)
  have h2:=rY (l:=l) fun q hq=>h q (List.mem_cons_of_mem _ hq)
  show 0≤g p+zL g l
  omega
theorem Z4 {α:Type}(g h:α→Int):∀(l:List α),zL (fun p=>g p+h p) l=zL g l+zL h l
 |[]=>rfl
 |p::l=>by
  show g p+h p+zL _ l=g p+zL g l+(h p+zL h l)
  rw[Z4 g h l];omega
theorem Ol {α:Type}(g h:α→Int):∀(l:List α),zL (fun p=>g p-h p) l=zL g l-zL h l
 |[]=>rfl
 |p::l=>by
  show g p-h p+zL _ l=g p+zL g l-(h p+zL h l)
  rw[Ol g h l];omega
theorem Ih {α:Type}{g h:α→Int}:∀{l:List α},(∀p∈l,g p=h p)→zL g l=zL h l
 |[],_=>rfl
 |p::l,e=>by
  show g p+zL g l=h p+zL h l
  rw[e p (List.mem_cons_self ..),Ih fun q hq=>e q (List.mem_cons_of_mem _ hq)]
def qG (g:Nat→Int):Nat→Int
 |0=>0
 |n+1=>qG g n+g n
theorem yj (g h:Nat→Int):∀n,qG (fun j=>g j+h j) n=qG g n+qG h n
 |0=>rfl
 |n+1=>by
  show qG _ n+(g n+h n)=qG g n+g n+(qG h n+h n)
  rw[yj g h n];omega
theorem mv {g h:Nat→Int}:∀{n:Nat},(∀j,j<n→g j=h j)→qG g n=qG h n
 |0,_=>rfl
 |n+1,e=>by
  show qG g n+g n=qG h n+h n
  rw[mv fun j hj=>e j (by omega),e n (Nat.lt_succ_self n)]
theorem uz (c:Int)(t:Nat):∀n,qG (fun j=>if j=t then c else 0) n=if t<n then c else 0
 |0=>rfl
 |n+1=>by
  show qG _ n+(if n=t then c else 0)=_
  rw[uz c t n]
  by_cases h:t<n
  ·rw[if_pos h,if_neg (by omega),if_pos (by omega)];omega
  ·by_cases h':n=t
   ·rw[if_neg h,if_pos h',if_pos (by omega)];omega
   ·rw[if_neg h,if_neg h',if_neg (by omega)];omega
theorem Om:∀n,qG (fun _=>0) n=0
 |0=>rfl
 |n+1=>by show qG _ n+0=0;rw[Om n];rfl
theorem Ec {g:Nat→Int}{A:Int}(h:∀j,-A≤g j∧g j≤A):∀n:Nat,-(n*A)≤qG g n∧qG g n≤n*A
 |0=>by simp[qG]
 |n+1=>by
  have h1:=h n
  have h2:=Ec h n
  have e:((n+1:Nat):Int)*A=(n:Int)*A+A:=by
   rw[Int.natCast_add,Int.add_mul];simp
  rw[e]
  show-_≤qG g n+g n∧qG g n+g n≤_
  omega
theorem Ii {α:Type}(g:Nat→α→Int)(n:Nat):∀l:List α,qG (fun j=>zL (g j) l) n=zL (fun p=>qG (fun j=>g j p) n) l
 |[]=>Om n
 |p::l=>by
  show qG (fun j=>g j p+zL (g j) l) n=qG (fun j=>g j p) n+zL _ l
  rw[yj,Ii g n l]
theorem jW {α:Type}{l:List α}{i:Nat}{d:α}(h:i<l.length):l.getD i d∈l:=by
 rw[List.getD_eq_getElem?_getD,List.getElem?_eq_getElem h]
 exact List.getElem_mem h
theorem dK {α:Type}(l:List α)(i:Nat)(d:α)(h:i<l.length):l.take i++[l.getD i d]=l.take (i+1):=by
 rw[List.take_add_one,List.getD_eq_getElem?_getD,List.getElem?_eq_getElem h]
 rfl
theorem jH {α:Type}(l:List α)(i j:Nat)(a d:α):(l.set i a).getD j d=if i=j∧i<l.length then a else l.getD j d:=by
 rw[List.getD_eq_getElem?_getD,List.getD_eq_getElem?_getD,List.getElem?_set]
 by_cases h:i=j
 ·subst h
  by_cases h':i<l.length<;>simp[h']
 ·simp[h]
theorem Ed {α:Type}{l m:List α}(d:α)(hl:l.length=m.length)(h:∀i,i<l.length→l.getD i d=m.getD i d):l=m:=by
 apply List.ext_getElem hl
 intro i h1 h2
 have:=h i h1
 rwa [List.getD_eq_getElem?_getD,List.getD_eq_getElem?_getD,List.getElem?_eq_getElem h1,List.getElem?_eq_getElem h2] at this
end Go.Ab
namespace Go.Ab.Gi
open Go.Ab
def nO (s c:Int):Int:=fQ .u64 (shl .u64 s 8) (IntKind.wrap .u64 c)
def yk (b:AC):Int:=zA (b.foldl nO 0)
def pB:Nat→AC→AC
 |0,_=>[]
 |m+1,b=>yk (b.take 8)::pB m (b.drop 8)
theorem vGa {x:AC}{i:Nat}(h:i<x.length)(s:Int):(x.take (i+1)).foldl nO s=nO ((x.take i).foldl nO s) (x.getD i 0):=by
 rw[←dK x i 0 h,List.foldl_append];rfl
theorem vC3 {k:Nat}(hk:9≤k)(s0 x r0:AC)(hx:x.length=8):yl k k s0 0 x 8 0 r0=some (s0,x.foldl nO 0,r0):=by
 obtain ⟨s, h1, h2⟩ := wC (L := fun n i (s : Int) => yl k n s0 s x 8 i r0) (N := 8) (fun s => (s0, s, r0)) (fun i s => s = (x.take i).foldl nO 0) (fun n s _ => rfl) (fun n i s hi hs=>by
  refine⟨nO s (x.getD i 0),?_,by rw[vGa (by omega),hs]⟩
  show Ij k (yl k n) s0 s x 8 (i:Int) r0=_
  unfold Ij
  rw[ah (show(i:Int)<8 by omega),ao,eT (by omega) (by omega),ao,qM (N:=8) hi (by omega),aH]
  rfl) (n:=k) (s:=0) (by omega) rfl
 rw[List.take_of_length_le (by omega)] at h2
 subst h2
 exact h1
theorem Z5 {k:Nat}(hk:9≤k):∀(m n:Nat) (b r:AC),b.length=8*m→m<n→r.length+m≤17592186044416→ym k n b r=some (r++pB m b)
 |0,n,b,r,hb,hn,_=>by
  obtain⟨n,rfl⟩:∃x,n=x+1:=⟨n-1,by omega⟩
  show yn k (ym k n) b r=_
  unfold yn
  rw[ak (by omega),an]
  simp[pB]
 |m+1,n,b,r,hb,hn,hr=>by
  obtain⟨n,rfl⟩:∃x,n=x+1:=⟨n-1,by omega⟩
  show yn k (ym k n) b r=_
  unfold yn
  have ht:(b.take 8).length=8:=by rw[List.length_take];omega
  have e8:((b.take 8).length:Int)=8:=by rw[ht];rfl
  rw[ah (show(b.length:Int)>0 by omega),ao,ah (show(8:Int)≤(b.length:Int) by omega),ao,e8,vC3 hk _ _ _ ht,aj]
  dsimp only
  rw[qX (by omega) (by omega),ao,ah (show(8:Int)≤(b.length:Int) by omega),ao]
  rw[Z5 hk m n _ _ (by rw[List.length_drop];omega) (by omega) (by simp;omega)]
  show some ((r++[zA _])++pB m (b.drop 8))=_
  rw[List.append_assoc]
  rfl
theorem vAw (n:Nat):Int.tmod (n:Int) 8=((n%8:Nat):Int):=rfl
def eV (b:AC):AC×Int:=if b.length%8=0 then(pB (b.length/8) b,0) else([],2)
theorem Z6 {k:Nat}{b:AC}(hk:9≤k)(hb:b.length<8*k)(bj:b.length≤140737488355328):mw k b=some (eV b):=by
 unfold mw eV
 rw[vAw]
 by_cases h:b.length%8=0
 ·rw[if_pos h,ah (by omega),Z5 hk (b.length/8) k b [] (by omega) (by omega) (by simp;omega)]
  rfl
 ·rw[if_neg h,ak (by omega)]
  rfl
def Z7:AC:=[(-1),6,1,2,2,2,1,1,2,0,2,2,2,0,0,0,1,5,4,1,1,1,1,1]
def yC (x:Int):Int:=if 0≤x∧x<24 then Z7.getD x.toNat 0 else-1
theorem Z8 (k:Nat)(x:Int):Ee k x=some (yC x):=by
 unfold Ee yC
 by_cases h:x<0
 ·rw[ah h,if_neg (by omega)];rfl
 ·rw[ak h,an]
  by_cases h2:x≥24
  ·rw[ah h2,if_neg (by omega)];rfl
  ·rw[ak h2,an,eT (by omega) (by omega),ao,if_pos (by omega)]
   rfl
theorem Ik (k:Nat)(x:Int):rZ k x=some (yC x):=by
 by_cases h:0≤x∧x<24
 ·obtain⟨n,rfl⟩:∃n:Nat,x=n:=⟨x.toNat,by omega⟩
  have hn:n<24:=by omega
  have:∀n:Nat,n<24→rZ 0 (n:Int)=some (yC (n:Int)):=by decide
  exact this n hn
 ·have e:yC x= -1:=by unfold yC;rw[if_neg h]
  rw[e]
  unfold rZ
  have ne:∀c:Int,0≤c→c<24→decide (x=c)=false:=fun c h1 h2=>ak (by omega)
  rw[ne 9 (by omega) (by omega),ne 13 (by omega) (by omega),ne 14 (by omega) (by omega),ne 15 (by omega) (by omega),ne 2 (by omega) (by omega),ne 6 (by omega) (by omega),ne 7 (by omega) (by omega),ne 16 (by omega) (by omega),
   ne 19 (by omega) (by omega),ne 20 (by omega) (by omega),ne 21 (by omega) (by omega),ne 22 (by omega) (by omega),ne 23 (by omega) (by omega),ne 3 (by omega) (by omega),ne 4 (by omega) (by omega),ne 5 (by omega) (by omega),ne 8 (by omega) (by omega),
   ne 10 (by omega) (by omega),ne 11 (by omega) (by omega),ne 12 (by omega) (by omega),ne 18 (by omega) (by omega),ne 17 (by omega) (by omega),ne 1 (by omega) (by omega)]
  rfl
abbrev Ef:Type:=Int×Int×Int×Int×Int×Int×Int
def iN (b:AC):Ef×Int:=
 if b=[] then((0,0,0,0,0,0,0),2)
 else if(eV (b.drop 1)).2≠0∨((eV (b.drop 1)).1.length:Int)≠yC (zA (b.getD 0 0)) then((0,0,0,0,0,0,0),2)
 else((zA (b.getD 0 0),(eV (b.drop 1)).1.getD 0 0,(eV (b.drop 1)).1.getD 1 0,(eV (b.drop 1)).1.getD 2 0,(eV (b.drop 1)).1.getD 3 0,(eV (b.drop 1)).1.getD 4 0,(eV (b.drop 1)).1.getD 5 0),0)
theorem vFu (l:AC)(i:Nat):(bif Nat.blt i l.length then l.getD i 0 else 0)=l.getD i 0:=by
 by_cases h:i<l.length
 ·rw[show Nat.blt i l.length=true by simp[Nat.blt_eq,h]];rfl
 ·rw[show Nat.blt i l.length=false by
   cases e:Nat.blt i l.length with
   |false=>rfl
   |true=>rw[Nat.blt_eq] at e;omega]
  rw[List.getD_eq_getElem?_getD,List.getElem?_eq_none (by omega)];rfl
theorem Z9 {k:Nat}{b:AC}(hk:9≤k)(hb:b.length≤8*k)(bj:b.length≤140737488355328):pC k b=some (iN b):=by
 unfold pC iN
 cases b with
 |nil=>rfl
 |cons c l=>
  rw[if_neg (by simp)]
  have e0:((c::l).length:Int)=(l.length:Int)+1:=by simp
  rw[ak (by omega),an,ah (show(1:Int)≤((c::l).length:Int) by omega),ao,Z6 hk (by simp at hb⊢;omega) (by simp at bj⊢;omega),aj]
  by_cases h:(eV (List.drop 1 (c::l))).2=0
  ·rw[ah h,eT (by omega) (by simp),Ik]
   simp only[aQ,an,ao,aj]
   by_cases h2:((eV (List.drop 1 (c::l))).1.length:Int)=yC (zA ((c::l).getD 0 0))
   ·rw[ah h2,if_neg (fun hh=>hh.elim (fun e=>e h) fun e=>e h2)]
    simp only[aQ,an,vFu]
   ·rw[ak h2,if_pos (.inr h2)]
    rfl
  ·rw[ak h,if_pos (.inl h)]
   rfl
theorem Eg (x:Int):yC x≤6:=by
 unfold yC
 split
 ·rename_i h
  obtain⟨n,rfl⟩:∃n:Nat,x=n:=⟨x.toNat,by omega⟩
  have:∀n:Nat,n<24→Z7.getD n 0≤6:=by decide
  exact this n (by omega)
 ·omega
abbrev lB:Type:=Int×Int×Int×Int×Int×Int×Int×Int
abbrev nP:Type:=Int×Int×AC×Int×Int
abbrev qJ:Type:=Int×AC×Int×AC×Int×Int×Int×Bool×Bool×Int
abbrev vI:Type:=Int×Int×Int×Bool
abbrev On:Type:=Int×List (Int×Int)×Int×Int×Int
abbrev yo:Type:=Int×List (Int×Int×Int)×EQ×AC×EQ×AC×EQ×List (Int×Int×Int×Int×Int×Int×Int)×AC×Int×Bool
abbrev kK:Type:=Int×List (Int×Int)×Int×Int×Int×Int×List (Int×Int×Int)×EQ×AC×EQ×AC×EQ×List (Int×Int×Int×Int×Int×Int×Int)×AC×Int×Bool×Int×Bool
abbrev Oo:Type:=Int×Int×Bool×Bool
def d0:nP:=(0,0,[],0,0)
section
variable {k:Nat} {rec:yp} {ev n i:Int} {Eh:List nP} {R:On} {c c2:Oo} {D:qJ} {G:kK} {L:vI} {outs:List (List lB)} {asked:List lB}
end
abbrev dkW (ro:Int)(x:AC)(sx:Int)(y:AC)(sy cA cK op:Int):qJ:=(ro,x,sx,y,sy,cA,cK,false,false,op)
section
variable {k:Nat} {ro sx sy cA cK op:Int} {x y b:AC}
end
def yU (n:Int)(i:Nat):Int:=IntKind.wrap .u8 (shr .i64 n (8*(i:Int)))
def qW (n:Int):AC:=[yU n 7,yU n 6,yU n 5,yU n 4,yU n 3,yU n 2,yU n 1,yU n 0]
def yQ (l:AC):AC:=l.flatMap qW
theorem lC:∀l,(yQ l).length=8*l.length
 |[]=>rfl
 |n::l=>by
  have:=lC l
  simp[yQ] at this⊢
  rw[this]
  simp[qW]
  omega
theorem vEy {k n} v (i:Nat)(hi:i≤7) bC bV aZ r (hr:r.length≤1000000000):
  sb k (n+1) v (i:Int) bC bV aZ r=sb k n v ((i:Int)-1) bC bV aZ (r++[yU v i]):=by
 show Il k (sb k n) v (i:Int) bC bV aZ r=_
 unfold Il
 have e8:zA (8*(i:Int))=8*(i:Int):=qL (by omega) (by omega)
 rw[ah (by simp),ao,e8,ak (by omega),dJ,ao,qX (by omega) (by omega),ao,qL (by omega) (by omega)]
 rfl
theorem yM7 {k}(hk:9≤k) v bC bV aZ r (hr:r.length≤100000000):
  sb k k v 7 bC bV aZ r=some (bC,bV,aZ,r++qW v):=by
 have gen:∀m,sb k (m+9) v 7 bC bV aZ r=some (bC,bV,aZ,r++qW v):=fun m=>by
  have h:=fun n i hi r' nk=>vEy (k:=k) (n:=n) v i hi bC bV aZ r' nk
  have h7:=h (m+8) 7 (by omega) r (by omega)
  have h6:=h (m+7) 6 (by omega) (r++[yU v 7]) (by grind)
  have h5:=h (m+6) 5 (by omega) ((r++[yU v 7])++[yU v 6]) (by grind)
  have h4:=h (m+5) 4 (by omega) (((r++[yU v 7])++[yU v 6])++[yU v 5]) (by grind)
  have h3:=h (m+4) 3 (by omega) ((((r++[yU v 7])++[yU v 6])++[yU v 5])++[yU v 4]) (by grind)
  have h2:=h (m+3) 2 (by omega) (((((r++[yU v 7])++[yU v 6])++[yU v 5])++[yU v 4])++[yU v 3]) (by grind)
  have h1:=h (m+2) 1 (by omega) ((((((r++[yU v 7])++[yU v 6])++[yU v 5])++[yU v 4])++[yU v 3])++[yU v 2]) (by simp;omega)
  have h0:=h (m+1) 0 (by omega) (((((((r++[yU v 7])++[yU v 6])++[yU v 5])++[yU v 4])++[yU v 3])++[yU v 2])++[yU v 1]) (by simp;omega)
  refine(h7.trans (h6.trans (h5.trans (h4.trans (h3.trans (h2.trans (h1.trans (h0.trans ?_))))))))
  show some (bC,bV,aZ,_)=_
  simp only[List.append_assoc,List.cons_append,List.nil_append]
  rfl
 obtain⟨m,rfl⟩:∃m,k=m+9:=⟨k-9,by omega⟩
 exact gen m
theorem yCn {k}(hk:9≤k) l (hl:l.length≤1000000):∀(m n i:Nat),i+m=l.length→m<n→uA k n l (l.length:Int) (i:Int) (yQ (l.take i))=some (yQ l)
 |0,n,i,hi,hn=>by
  obtain⟨n,rfl⟩:∃x,n=x+1:=⟨n-1,by omega⟩
  show yq k (uA k n) l _ _ _=_
  unfold yq
  simp_all
 |m+1,n,i,hi,hn=>by
  obtain⟨n,rfl⟩:∃x,n=x+1:=⟨n-1,by omega⟩
  show yq k (uA k n) l _ _ _=_
  unfold yq
  have aS:i<l.length:=by omega
  rw[ah (by grind),ao,eT (by omega) (by omega),ao,aH,
   yM7 hk _ _ _ _ _ (by rw[lC,List.length_take];omega),aj,qM (N:=l.length) aS (by omega)]
  rw[show yQ (l.take i)++qW (l.getD i 0)=yQ (l.take (i+1)) by
   rw[←dK l i 0 aS]
   simp[yQ]]
  exact yCn hk l hl m n (i+1) (by omega) (by omega)
theorem Ei {k}(hk:9≤k) l (hl:l.length≤1000000)(rp:l.length<k):sd k l=some (yQ l):=by
 unfold sd
 have h8:zA (8*(l.length:Int))=((8*l.length:Nat):Int):=by rw[qL (by omega) (by omega)];omega
 rw[h8]
 have hm:ug 0 ((8*l.length:Nat):Int) 1=true:=by
  grind
 rw[hm,ao]
 have:=yCn hk l hl l.length k 0 (by omega) rp
 show(uA k k l (l.length:Int) ((0:Nat):Int) (yQ (l.take 0))).bind _=_
 simp_all
def vS (l:AC):AC:=qW (l.length:Int)++yQ l
theorem vBv {k}(hk:9≤k) l (hl:l.length≤1000000)(rp:l.length<k):Im k l=some (vS l):=by
 unfold Im
 rw[Ei hk [(l.length:Int)] (by simp) (by grind),aj,Ei hk l hl rp,aj]
 rw[qX (by rw[lC,lC];grind) (by rw[lC,lC];grind)]
 rfl
def vM (b:AC):AC:=[IntKind.wrap .u8 (shr .i64 (b.length:Int) 8),IntKind.wrap .u8 (b.length:Int)]++b
theorem qQ5 k b:Ej k b=some (if b.length≤60000 then(vM b,true) else([],false)):=by
 unfold Ej
 by_cases h:b.length≤60000
 ·rw[ak (by omega),an,qX (by omega) (by omega),if_pos h]
  rfl
 grind
theorem yMo (x:Nat)(hx:x<18446744073709551616):(BitVec.ofInt 64 (x:Int)).toNat=x:=by
 rw[BitVec.ofInt_natCast,BitVec.toNat_ofNat]
 exact Nat.mod_eq_of_lt hx
theorem qS9 (a c:Nat)(hc:c<256)(ha:a*256+c<18446744073709551616):(BitVec.ofInt 64 ((a*256:Nat):Int)|||BitVec.ofInt 64 (c:Int)).toNat=a*256+c:=by
 rw[BitVec.toNat_or,yMo _ (by omega),yMo _ (by omega)]
 have:=Nat.two_pow_add_eq_or_of_lt (b:=c) (i:=8) hc a
 rw[show(2:Nat)^8*a=a*256 by omega] at this
 exact this.symm
theorem Io (x:Int):IntKind.wrap .u8 x=x%256:=by
 unfold IntKind.wrap
 simp[IntKind.bits,IntKind.signed]
theorem Oq (x:Int):IntKind.wrap .u64 x=x%18446744073709551616:=by
 unfold IntKind.wrap
 simp[IntKind.bits,IntKind.signed]
theorem vDu {s c:Int}(hs:0≤s)(hc:0≤c∧c<256):nO s c=(s*256+c)%18446744073709551616:=by
 unfold nO
 have e1:shl .u64 s 8=(s*256)%18446744073709551616:=Oq _
 rw[e1,Oq c]
 obtain⟨a,ha⟩:∃a:Nat,s%72057594037927936=a:=⟨(s%72057594037927936).toNat,by omega⟩
 obtain⟨d,rfl⟩:∃d:Nat,c=d:=⟨c.toNat,by omega⟩
 have e2:(s*256)%18446744073709551616=((a*256:Nat):Int):=by omega
 have e3:(d:Int)%18446744073709551616=(d:Int):=by omega
 rw[e2,e3]
 show IntKind.wrap .u64 (((BitVec.ofInt 64 ((a*256:Nat):Int)|||BitVec.ofInt 64 (d:Int)).toNat:Nat):Int)=_
 rw[qS9 a d (by omega) (by omega),Oq]
 omega
theorem yNj (n:Int)(i:Nat)(hi:i≤7):yU n i=(n/2^(8*i))%256:=by
 unfold yU
 rw[Io]
 congr 1
 show n.fdiv (2^(min (8*(i:Int)).toNat 64))=_
 rw[show min (8*(i:Int)).toNat 64=8*i by omega]
 exact Int.fdiv_eq_ediv_of_nonneg _ (Int.le_of_lt (Int.pow_pos (by decide)))
theorem yZ3 {n:Int}(h1:-9223372036854775808≤n)(h2:n<9223372036854775808):yk (qW n)=n:=by
 have o:=fun i (hi:i≤7)=>yNj n i hi
 have b:∀i,i≤7→0≤yU n i∧yU n i<256:=fun i hi=>by rw[o i hi];omega
 have p:∀s:Int,0≤s→∀i,i≤7→nO s (yU n i)=(s*256+yU n i)%18446744073709551616:=fun s hs i hi=>vDu hs (b i hi)
 unfold yk qW
 simp only[List.foldl_cons,List.foldl_nil]
 rw[p 0 (by omega) 7 (by omega),p _ (by omega) 6 (by omega),p _ (by omega) 5 (by omega),p _ (by omega) 4 (by omega),p _ (by omega) 3 (by omega),p _ (by omega) 2 (by omega),p _ (by omega) 1 (by omega),p _ (by omega) 0 (by omega)]
 rw[o 7 (by omega),o 6 (by omega),o 5 (by omega),o 4 (by omega),o 3 (by omega),o 2 (by omega),o 1 (by omega),o 0 (by omega)]
 simp only[Nat.reduceMul,Int.reducePow]
 unfold zA IntKind.wrap
 simp only[IntKind.bits,IntKind.signed,Bool.true_and]
 simp
 split<;>omega
def qT (l:EQ):AC:=l.flatMap vS
theorem jw l:(vS l).length=8*(l.length+1):=by
 simp[vS,lC]
 show 8+_=_
 omega
theorem yZ9 {l:EQ}{i}(h:i<l.length):qT (l.take i)++vS (l.getD i [])=qT (l.take (i+1)):=by
 rw[←dK l i [] h]
 simp[qT]
structure jI (l:EQ):Prop where
 n:l.length≤900
 r:∀x∈l,x.length≤900
theorem vAa {l}(h:∀x∈l,x.length≤900):(qT l).length≤8000*l.length:=by
 induction l with
 |nil=>simp[qT]
 |cons x l ih=>
  have h1:=ih (by grind)
  have h2:=h x (by simp)
  simp[qT,jw] at h1⊢
  omega
theorem yOz {k}(hk:1000≤k){l}(h:jI l):Ek k l=some (qT l):=by
 have hn:=h.n
 unfold Ek
 obtain ⟨s, h1, h2⟩ := wC (L := fun n i (s : AC) => yr k n l (l.length : Int) i s) (N := l.length) (fun s => s) (fun i s => s = qT (l.take i)) (fun n s _=>by
  show yt k (yr k n) l _ _ s=_
  unfold yt
  simp) (fun n i s hi hs=>by
  refine⟨s++vS (l.getD i []),?_,by rw[hs,yZ9 hi]⟩
  show yt k (yr k n) l _ (i:Int) s=_
  unfold yt
  have hr:=h.r _ (jW (d:=[]) hi)
  have xN:s.length≤8000*1000:=by
   have:=vAa (l:=l.take i) fun x hx=>h.r x (by grind)
   grind
  rw[ah (by grind),ao,eT (by omega) (by omega),ao,aH,vBv (by omega) _ (by omega) (by omega),aj,
   qX (by rw[jw];omega) (by rw[jw];omega),ao,qM (N:=l.length) hi (by omega)]) (n:=k) (s:=[]) (by omega) rfl
 simp_all
def fT (a:Int×Int×Int):AC:=[a.1,a.2.1,a.2.2]
def dL (p:Int×Int×Int×Int×Int×Int×Int):AC:=[p.1,p.2.1,p.2.2.1,p.2.2.2.1,p.2.2.2.2.1,p.2.2.2.2.2.1,p.2.2.2.2.2.2]
def dM (s:yo):EQ:=
 (((((([[s.1,s.2.2.2.2.2.2.2.2.2.1,bif s.2.2.2.2.2.2.2.2.2.2 then 1 else 0,(s.2.1.length:Int),(s.2.2.1.length:Int),(s.2.2.2.1.length:Int),(s.2.2.2.2.1.length:Int),(s.2.2.2.2.2.2.1.length:Int),(s.2.2.2.2.2.2.2.1.length:Int)]]++
  s.2.1.map fT)++s.2.2.1)++[s.2.2.2.1])++s.2.2.2.2.1)++[s.2.2.2.2.2.1])++s.2.2.2.2.2.2.1)++s.2.2.2.2.2.2.2.1.map dL++[s.2.2.2.2.2.2.2.2.1]
theorem yK5 {α β:Type}(f:α→β) d {l:List α}{i}(h:i<l.length):(l.take i).map f++[f (l.getD i d)]=(l.take (i+1)).map f:=by
 rw[←dK l i d h];simp
theorem vDb {k}{l:List (Int×Int×Int)}(hl:l.length≤900)(hk:1000≤k)(s:yo)(b) r (hr:r.length≤1000000):uB k k l (l.length:Int) 0 s b r=some (s,b,r++l.map fT):=by
 obtain ⟨t, h1, h2⟩ := wC (L := fun n i (t : EQ) => uB k n l (l.length : Int) i s b t) (N := l.length) (fun t => (s, b, t)) (fun i t => t = r ++ (l.take i).map fT) (fun n t _=>by
  show yu k (uB k n) l _ _ s b t=_
  unfold yu
  simp) (fun n i t hi ht=>by
  refine⟨t++[fT (l.getD i (0,0,0))],?_,by rw[ht,List.append_assoc,yK5 fT (0,0,0) hi]⟩
  show yu k (uB k n) l _ (i:Int) s b t=_
  unfold yu
  have:t.length≤1001000:=by grind
  rw[ah (by grind),ao,eT (by omega) (by omega),ao,qX (by omega) (by omega),ao,qM (N:=l.length) hi (by omega)]
  rfl) (n:=k) (s:=r) (by omega) (by simp)
 simp_all
theorem yRs {k}{l:List (Int×Int×Int×Int×Int×Int×Int)}(hl:l.length≤900)(hk:1000≤k)(s:yo) r (hr:r.length≤1000000):uC k k l (l.length:Int) 0 s r=some (s,r++l.map dL):=by
 obtain ⟨t, h1, h2⟩ := wC (L := fun n i (t : EQ) => uC k n l (l.length : Int) i s t) (N := l.length) (fun t => (s, t)) (fun i t => t = r ++ (l.take i).map dL) (fun n t _=>by
  show yv k (uC k n) l _ _ s t=_
  unfold yv
  simp) (fun n i t hi ht=>by
  refine⟨t++[dL (l.getD i (0,0,0,0,0,0,0))],?_,by rw[ht,List.append_assoc,yK5 dL (0,0,0,0,0,0,0) hi]⟩
  show yv k (uC k n) l _ (i:Int) s t=_
  unfold yv
  have:t.length≤1001000:=by grind
  rw[ah (by grind),ao,eT (by omega) (by omega),ao,qX (by omega) (by omega),ao,qM (N:=l.length) hi (by omega)]
  rfl) (n:=k) (s:=r) (by omega) (by simp)
 simp_all
theorem qVm {k}(hk:1000≤k){s}(h:jI (dM s)):ft k s=some (qT (dM s)):=by
 have hn:=h.n
 simp only[dM,List.length_append,List.length_map] at hn
 unfold ft
 rw[show Ip k s.2.2.2.2.2.2.2.2.2.2=some (bif s.2.2.2.2.2.2.2.2.2.2 then 1 else 0) by unfold Ip;grind,aj]
 rw[vDb (by omega) hk _ _ _ (by simp),aj]
 dsimp only
 rw[qX (by grind) (by grind),ao,qX (by grind) (by grind),ao,qX (by simp;omega) (by grind),ao,qX (by simp;omega) (by simp;omega),ao,
  qX (by simp;omega) (by simp;omega),ao,yRs (by omega) hk _ _ (by simp;omega),aj]
 dsimp only
 rw[qX (by simp;omega) (by simp;omega),ao]
 show(Ek k (dM s)).bind (fun x1=>some x1)=_
 rw[yOz hk h]
 rfl
structure Ot (D:qJ):Prop where
 aaa:D.2.2.2.2.2.2.2.1=false
 down:D.2.2.2.2.2.2.2.2.1=false
 room:0≤D.1∧D.1≤200000
 x:(D.2.1.length:Int)≤D.1
 y:(D.2.2.2.1.length:Int)≤D.1
def yK (D:qJ)(i:Int):AC:=if i=0 then D.2.1 else D.2.2.2.1
theorem Ot.as {D}(h:Ot D):∃ro x sx y sy cA cK op,D=dkW ro x sx y sy cA cK op∧0≤ro∧ro≤200000∧(x.length:Int)≤ro∧(y.length:Int)≤ro:=by
 obtain⟨ro,x,sx,y,sy,cA,cK,ar,dn,op⟩:=D
 obtain⟨h1,h2,h3,h4,h5⟩:=h
 subst h1;subst h2
 grind
structure vKr (L:vI):Prop where
 side:L.1=0∨L.1=1
 gen:1≤L.2.1∧L.2.1≤4611686018427387904
 rows:0≤L.2.2.1∧L.2.2.1≤1000000
 stale:L.2.2.2=false
theorem pD b:(vM b).length=b.length+2:=by rfl
def lD (l:AC):Prop:=∀x∈l,-9223372036854775808≤x∧x<9223372036854775808
theorem qYh:∀{l:AC},lD l→pB l.length (yQ l)=l
 |[],_=>rfl
 |n::l,h=>by
  have h1:=h n (List.mem_cons_self ..)
  have e:yQ (n::l)=qW n++yQ l:=by simp[yQ]
  rw[e]
  show yk ((qW n++yQ l).take 8)::pB l.length ((qW n++yQ l).drop 8)=_
  have t:(qW n++yQ l).take 8=qW n:=rfl
  have d:(qW n++yQ l).drop 8=yQ l:=rfl
  rw[t,d,yZ3 h1.1 h1.2,qYh fun x hx=>h x (List.mem_cons_of_mem _ hx)]
theorem qSf {l:AC}(h:lD l):eV (yQ l)=(l,0):=by
 unfold eV
 have:=lC l
 rw[if_pos (by omega),show(yQ l).length/8=l.length by omega,qYh h]
theorem yCb {k:Nat}(hk:9≤k){l:AC}(hl:l.length<k)(hm:l.length≤1000000)(h:lD l):mw k (yQ l)=some (l,0):=by
 have:=lC l
 rw[Z6 hk (by omega) (by omega),qSf h]
theorem Ou {k:Nat}(hk:9≤k){n:Int}(h:-9223372036854775808≤n∧n<9223372036854775808):mw k (qW n)=some ([n],0):=by
 have e:qW n=yQ [n]:=by simp[yQ]
 rw[e]
 exact yCb hk (by simp;omega) (by simp) fun x hx=>by rw[List.mem_singleton.1 hx];exact h
theorem yNd {k:Nat}(hk:9≤k){l:AC}(hl:l.length<k)(hm:l.length≤100000)(h:lD l)(b:AC)(hb:b.length≤1000000):Iq k (vS l++b)=some (l,b,true):=by
 have kL:=lC l
 have hlen:(vS l++b).length=8+8*l.length+b.length:=by
  rw[List.length_append,vS,List.length_append,kL];rfl
 have t:(vS l++b).take 8=qW (l.length:Int):=rfl
 have d:(vS l++b).drop 8=yQ l++b:=rfl
 unfold Iq
 rw[ak (by omega),an,ah (by omega),ao,t,Ou hk (by omega),aj,d]
 have uD:(yQ l++b).length=8*l.length+b.length:=by rw[List.length_append,kL]
 have w1:zA (Int.tdiv ((yQ l++b).length:Int) 8)=((l.length+b.length/8:Nat):Int):=by
  rw[uD]
  have:Int.tdiv ((8*l.length+b.length:Nat):Int) 8=(((8*l.length+b.length)/8:Nat):Int):=rfl
  rw[this,qL (by omega) (by omega)]
  congr 1
  omega
 have w2:zA (8*(l.length:Int))=((8*l.length:Nat):Int):=by rw[qL (by omega) (by omega)];omega
 have bd:zD 0 [(l.length:Int)].length=true:=rfl
 simp only[List.getD_cons_zero,bd,ao]
 rw[ak (show¬(l.length:Int)<0 by omega),w1,w2,ak (show¬(l.length:Int)>((l.length+b.length/8:Nat):Int) by omega),ah (show(0:Int)≤((8*l.length:Nat):Int) by omega),
  ah (show((8*l.length:Nat):Int)≤((yQ l++b).length:Int) by omega),aH,show List.take (8*l.length) (yQ l++b)=yQ l from List.take_left' kL,show List.drop (8*l.length) (yQ l++b)=b from List.drop_left' kL]
 simp only[ao,an,Bool.and_self]
 rw[yCb hk hl (by omega) h]
 rfl
def uE (b:AC):Int:=fQ .i64 (shl .i64 (zA (b.getD 0 0)) 8) (zA (b.getD 1 0))
def Cut (b:AC):Prop:=b.length<2∨uE b>60000∨uE b>(b.length:Int)-2
def wP (l:EQ):AC:=l.flatMap vM
theorem yGc {r:AC}(hr:r.length≤60000){b:AC}(h0:b.getD 0 0=(vM r).getD 0 0)(h1:b.getD 1 0=(vM r).getD 1 0):uE b=(r.length:Int):=by
 unfold uE
 rw[h0,h1]
 have e0:(vM r).getD 0 0=((r.length/256:Nat):Int):=by
  show IntKind.wrap .u8 (shr .i64 (r.length:Int) 8)=_
  rw[Io]
  have:shr .i64 (r.length:Int) 8=((r.length/256:Nat):Int):=by
   show(r.length:Int).fdiv (2^8)=_
   rw[Int.fdiv_eq_ediv_of_nonneg _ (by decide)]
   rfl
  rw[this]
  omega
 have e1:(vM r).getD 1 0=((r.length%256:Nat):Int):=by
  show IntKind.wrap .u8 (r.length:Int)=_
  rw[Io]
  omega
 rw[e0,e1,qL (by omega) (by omega),qL (by omega) (by omega)]
 have e2:shl .i64 ((r.length/256:Nat):Int) 8=((r.length/256*256:Nat):Int):=by
  show zA (((r.length/256:Nat):Int)*2^8)=_
  rw[show((r.length/256:Nat):Int)*2^8=((r.length/256*256:Nat):Int) by omega]
  exact qL (by omega) (by omega)
 rw[e2]
 show IntKind.wrap .i64 (((BitVec.ofInt 64 ((r.length/256*256:Nat):Int)|||BitVec.ofInt 64 ((r.length%256:Nat):Int)).toNat:Nat):Int)=_
 rw[qS9 _ _ (by omega) (by omega)]
 have:=qL (x:=((r.length/256*256+r.length%256:Nat):Int)) (by omega) (by omega)
 unfold zA at this
 rw[this]
 omega
theorem yH9 {r:AC}(hr:r.length≤60000){j:Nat}(hj:j<r.length+2):Cut ((vM r).take j):=by
 have hl:=pD r
 by_cases h:j<2
 ·left
  rw[List.length_take];omega
 ·right;right
  have g:∀i,i<2→((vM r).take j).getD i 0=(vM r).getD i 0:=fun i hi=>by
   rw[List.getD_eq_getElem?_getD,List.getD_eq_getElem?_getD,List.getElem?_take_of_lt (by omega)]
  rw[yGc hr (g 0 (by omega)) (g 1 (by omega)),List.length_take]
  omega
theorem yw:Cut []:=.inl (by decide)
theorem yLh {k:Nat}{t:AC}(ht:Cut t)(oW:t.length≤1000000):∀(l:EQ) (n:Nat) (r:EQ),(∀x∈l,x.length≤60000)→l.length<n→(wP l).length≤1000000→r.length+l.length≤1000000→yx k n (wP l++t) r=some (t,r++l)
 |[],n,r,_,hn,_,_=>by
  obtain⟨n,rfl⟩:∃m,n=m+1:=⟨n-1,by omega⟩
  rw[List.append_nil]
  show yy k (yx k n) t r=_
  unfold yy
  by_cases h2:t.length<2
  ·rw[ak (by omega)];rfl
  ·rw[ah (by omega),eT (by omega) (by omega),eT (by omega) (by omega)]
   simp only[ao]
   have e:fQ .i64 (shl .i64 (zA (t.getD 0 0)) 8) (zA (t.getD 1 0))=uE t:=rfl
   rw[e,qL (x:=(t.length:Int)-2) (by omega) (by omega)]
   by_cases h3:uE t>60000
   ·rw[ah h3];rfl
   ·rw[ak h3,ah (show uE t>(t.length:Int)-2 by rcases ht with h|h|h;exact absurd h h2;exact absurd h h3;exact h)]
    rfl
 |x::l,n,r,hl,hn,hb,hr=>by
  obtain⟨n,rfl⟩:∃m,n=m+1:=⟨n-1,by omega⟩
  have hx:=hl x (List.mem_cons_self ..)
  have ex:wP (x::l)=vM x++wP l:=by simp[wP]
  have ni:=pD x
  rw[ex,List.length_append] at hb
  have ih:=yLh (k:=k) ht oW l n (r++[x]) (fun y hy=>hl y (List.mem_cons_of_mem _ hy)) (by simp at hn;omega) (by omega) (by rw[List.length_append];simp at hr⊢;omega)
  rw[ex,List.append_assoc]
  obtain⟨B,hB⟩:∃B,wP l++t=B:=⟨_,rfl⟩
  rw[hB] at ih⊢
  have ZT:B.length≤2000000:=by rw[←hB,List.length_append];omega
  have hlen:(vM x++B).length=x.length+2+B.length:=by rw[List.length_append,ni]
  show yy k (yx k n) (vM x++B) r=_
  unfold yy
  rw[ah (by omega),eT (by omega) (by omega),eT (by omega) (by omega)]
  simp only[ao]
  have e:fQ .i64 (shl .i64 (zA ((vM x++B).getD 0 0)) 8) (zA ((vM x++B).getD 1 0))=(x.length:Int):=yGc hx rfl rfl
  have hs:qS (vM x++B) 2 (x.length+2-2)=x:=by
   unfold qS
   show List.take (x.length+2-2) (x++B)=x
   exact List.take_left' (by omega)
  have hd:List.drop (x.length+2) (vM x++B)=B:=List.drop_left' ni
  have w2:zA (2+(x.length:Int))=((x.length+2:Nat):Int):=by rw[qL (by omega) (by omega)];omega
  rw[e,w2,qL (x:=((vM x++B).length:Int)-2) (by omega) (by omega),ak (show¬(x.length:Int)>60000 by omega),ak (show¬(x.length:Int)>((vM x++B).length:Int)-2 by omega),aH,hs,hd,
   ah (show(2:Int)≤((x.length+2:Nat):Int) by omega),ah (show(0:Int)≤((x.length+2:Nat):Int) by omega),ah (show((x.length+2:Nat):Int)≤((vM x++B).length:Int) by omega),qX (by omega) (by omega),qX (by simp at hr;omega) (by simp at hr;omega)]
  simp only[an,Bool.and_self,ao]
  rw[ih,List.append_assoc]
  rfl
theorem qW8 {k:Nat}{t:AC}(ht:Cut t)(oW:t.length≤1000000){l:EQ}(hl:∀x∈l,x.length≤60000)(hn:l.length<k)(hm:l.length≤1000000)(hb:(wP l).length≤1000000):El k (wP l++t)=some (l,(t.length:Int)):=by
 unfold El
 rw[yLh ht oW l k [] hl hn hb (by simpa using hm)]
 rfl
abbrev qR:=Int×Int×Int
abbrev zC:=Int×Int×Int×Int×Int×Int×Int
def jZ (a:qR):Bool:=decide (a.1>-4611686018427387904)&&(decide (a.1<4611686018427387904)&&(decide (a.2.1≥0)&&(decide (a.2.1≤2305843009213693952)&&(decide (a.2.2≥0)&&decide (a.2.2≤2305843009213693952)))))
def vY (n:Int):Bool:=decide (n≥-1)&&decide (n≤2305843009213693952)
def ef (n:Int):Bool:=decide (n>-72057594037927936)&&decide (n<72057594037927936)
def cell (m:EQ)(i j:Nat):Int:=(m.getD i []).getD j 0
def jx (n:Nat)(m:EQ):Bool:=decide (m.length=n)&&qE (fun i=>decide ((m.getD i []).length=n)) n 0
def my (p:Int→Bool)(n:Nat)(m:EQ):Bool:=qE (fun i=>qE (fun j=>p (cell m i j)) n 0) n 0
def pE (n:Nat)(m:EQ):Bool:=qE (fun i=>qE (fun j=>decide (cell m i j=zA (0-cell m j i))) n 0) n 0
def jy (se:List qR)(bil:EQ)(mul:AC)(pos:EQ):Bool:=
 let n:=se.length
 decide (1≤n)&&(decide (n≤6)&&(jx n bil&&(jx n pos&&(decide (mul.length=n)&&(qE (fun i=>jZ (se.getD i (0,0,0))) n 0&&(qE (fun i=>vY (mul.getD i 0)) n 0&&(my vY n bil&&(my ef n pos&&pE n pos))))))))
theorem qXd (k:Nat)(b c r:Int):Ov k b c r=some (jZ (b,c,r)):=by
 unfold Ov jZ
 cases decide (b>-4611686018427387904)<;>cases decide (b<4611686018427387904)<;>cases decide (c≥0)<;>cases decide (c≤2305843009213693952)<;>cases decide (r≥0)<;>rfl
theorem yLc (k:Nat)(b c r:Int):Ir k b c r=some (jZ (b,c,r)):=qXd k b c r
theorem Ow (k:Nat)(n:Int):Is k n=some (vY n):=by
 unfold Is vY
 cases decide (n≥-1)<;>rfl
theorem yN4 (k:Nat)(n:Int):Ox k n=some (vY n):=Ow k n
theorem vG9 (k:Nat)(n:Int):Iu k n=some (ef n):=by
 unfold Iu ef
 cases decide (n>-72057594037927936)<;>rfl
theorem yL7 {k:Nat}{n:Nat}(hk:n<k)(hn:n≤1000)(m:EQ):Iv k m n=some (jx n m):=by
 unfold Iv jx
 simp only[nN]
 by_cases h:m.length=n
 ·have := kJ (L := fun c i => Oy k c m n i) (N := n) (fun i => decide ((m.getD i []).length = n)) (.inl ()) (.inr false) (fun c=>by
    show Em k _ m n n=_
    unfold Em
    simp only [qI, ak (Nat.lt_irrefl n), an]) (fun c i hi=>by
    show Em k _ m n i=_
    unfold Em
    simp only[qK,qM hi (by omega),qI,nN,aH,h,ah hi,ao]
    cases decide ((m.getD i []).length=n)<;>rfl) hk
  simp only[h,decide_true,aQ,an,Bool.true_and]
  rw[this]
  generalize qE _ _ _=r
  cases r<;>rfl
 ·simp only[ak h,dJ,ao,Bool.false_and]
theorem vDw {k:Nat}{N i:Nat}(hk:N<k)(hN:N≤1000)(hi:i<N){a:List qR}{b p:EQ}{m:AC}(hb:b.length=N)(hp:p.length=N)(Oz:∀j,j<N→(b.getD j []).length=N)(mz:∀j,j<N→(p.getD j []).length=N):
  Iw k k N i 0 a b m p=some (bif qE (fun j=>vY (cell b i j)&&(ef (cell p i j)&&decide (cell p i j=zA (0-cell p j i)))) N 0 then .inl ((N:Int),(i:Int),a,b,m,p) else .inr false):=by
 refine kJ (L:=fun c j=>Iw k c N i j a b m p) (N:=N) _ (.inl ((N:Int),(i:Int),a,b,m,p)) (.inr false) (fun c=>?_) (fun c j hj=>?_) hk
 ·show En k _ N i N a b m p=_
  unfold En
  simp only[qI,ak (Nat.lt_irrefl N),an]
 ·show En k _ N i j a b m p=_
  unfold En
  simp only[qK,qM hj (by omega),qI,aH,hb,hp,Oz i hi,mz i hi,mz j hj,ah hj,ah hi,ao,Ow,aj,ef]
  show(bif !vY (cell b i j) then _ else bif decide (cell p i j≤_) then _ else bif decide (cell p i j≥_) then _ else bif !decide (cell p i j=_) then _ else _)=_
  have e1:decide (cell p i j≤-72057594037927936)= !decide (cell p i j>-72057594037927936):=by
   by_cases h:cell p i j≤-72057594037927936
   ·rw[ah h,ak (by omega)];rfl
   ·rw[ak h,ah (by omega)];rfl
  have e2:decide (cell p i j≥72057594037927936)= !decide (cell p i j<72057594037927936):=by
   by_cases h:cell p i j≥72057594037927936
   ·rw[ah h,ak (by omega)];rfl
   ·rw[ak h,ah (by omega)];rfl
  rw[e1,e2]
  show(bif !vY (cell b i j) then _ else bif _ then _ else bif _ then _ else bif !decide (cell p i j=zA (0-cell p j i)) then _ else _)=_
  cases vY (cell b i j)<;>cases decide (cell p i j>-72057594037927936)<;>cases decide (cell p i j<72057594037927936)<;>cases decide (cell p i j=zA (0-cell p j i))<;>rfl
theorem yYh {k:Nat}{N:Nat}(hk:N<k)(hN:N≤1000){a:List qR}{b p:EQ}{m:AC}(ha:a.length=N)(hm:m.length=N)(hb:b.length=N)(hp:p.length=N)(Oz:∀j,j<N→(b.getD j []).length=N)(mz:∀j,j<N→(p.getD j []).length=N):
  Ix k k N 0 a b m p=some (bif qE (fun i=>jZ (a.getD i (0,0,0))&&(vY (m.getD i 0)&&qE (fun j=>vY (cell b i j)&&(ef (cell p i j)&&decide (cell p i j=zA (0-cell p j i)))) N 0)) N 0 then .inl () else .inr false):=by
 refine kJ (L:=fun c j=>Ix k c N j a b m p) (N:=N) _ (.inl ()) (.inr false) (fun c=>?_) (fun c i hi=>?_) hk
 ·show Eo k _ N N a b m p=_
  unfold Eo
  simp only[qI,ak (Nat.lt_irrefl N),an]
 ·show Eo k _ N i a b m p=_
  unfold Eo
  simp only[qK,qI,aH,ha,hm,ah hi,ao,Ow,qXd,aj,vDw hk hN hi hb hp Oz mz]
  generalize qE _ N 0=r
  show(bif !jZ (a.getD i (0,0,0)) then _ else _)=_
  cases jZ (a.getD i (0,0,0))<;>cases vY (m.getD i 0)<;>cases r<;>simp only[aQ,dJ,ao,an,Bool.and_true,Bool.and_false,Bool.true_and,Bool.false_and,qM hi (show N<9223372036854775808 by omega)]
theorem vJ3 {k:Nat}(hk:10<k)(a:List qR)(b:EQ)(m:AC)(p:EQ):OA k a b m p=some (jy a b m p):=by
 unfold OA
 have l1:decide ((a.length:Int)<1)= !decide (1≤a.length):=by
  by_cases h:1≤a.length
  ·rw[ah h,ak (by omega)];rfl
  ·rw[ak h,ah (by omega)];rfl
 have l2:decide ((a.length:Int)>6)= !decide (a.length≤6):=by
  by_cases h:a.length≤6
  ·rw[ah h,ak (by omega)];rfl
  ·rw[ak h,ah (by omega)];rfl
 rw[l1,l2]
 unfold jy
 dsimp only
 by_cases h1:1≤a.length
 case neg=>rw[ak h1];rfl
 by_cases h2:a.length≤6
 case neg=>rw[ah h1,ak h2];rfl
 rw[ah h1,ah h2]
 simp only[aQ,an,Bool.true_and]
 rw[yL7 (by omega) (by omega),yL7 (by omega) (by omega)]
 simp only[aj,nN]
 cases hb:jx a.length b with
 |false=>rfl
 |true=>
  cases hp:jx a.length p with
  |false=>rfl
  |true=>
   by_cases hm:m.length=a.length
   case neg=>simp only[ak hm];rfl
   simp only[jx,bH,bD,fS] at hb hp
   simp only[hm,decide_true,aQ,an,Bool.true_and]
   rw[yYh (by omega) (by omega) rfl hm hb.1 hp.1 hb.2 hp.2]
   have e:(qE (fun i=>jZ (a.getD i (0,0,0))) a.length 0&&(qE (fun i=>vY (m.getD i 0)) a.length 0&&(my vY a.length b&&(my ef a.length p&&pE a.length p))))=
     qE (fun i=>jZ (a.getD i (0,0,0))&&(vY (m.getD i 0)&&qE (fun j=>vY (cell b i j)&&(ef (cell p i j)&&decide (cell p i j=zA (0-cell p j i)))) a.length 0)) a.length 0:=by
    rw[Bool.eq_iff_iff]
    simp only[my,pE,bH,fS]
    constructor
    ·rintro⟨h1,h2,h3,h4,h5⟩ i hi
     exact⟨h1 i hi,h2 i hi,fun j hj=>⟨h3 i hi j hj,h4 i hi j hj,h5 i hi j hj⟩⟩
    ·intro h
     exact⟨fun i hi=>(h i hi).1,fun i hi=>(h i hi).2.1,fun i hi j hj=>((h i hi).2.2 j hj).1,fun i hi j hj=>((h i hi).2.2 j hj).2.1,fun i hi j hj=>((h i hi).2.2 j hj).2.2⟩
   rw[e]
   generalize qE _ _ _=r
   cases r<;>rfl
theorem yTl {k:Nat}{a:List qR}(hk:a.length<k)(hl:a.length<9223372036854775808):Iy k a=some (!qE (fun i=>jZ (a.getD i (0,0,0))) a.length 0):=by
 obtain ⟨x, h1, h2⟩ := rW (L := fun c i => Ep k c a a.length i) (N := a.length) (fun i => !jZ (a.getD i (0, 0, 0))) (fun c=>by
  show yz k _ a a.length a.length=_
  unfold yz
  simp only [qI, ak (Nat.lt_irrefl _), an]) (fun c i hi=>by
  show yz k _ a a.length i=_
  unfold yz OB
  simp only[qK,qM hi hl,qI,aH,ah hi,ao,yLc,aj]) hk
 unfold Iy OC
 rw[h1]
 simp only[Bool.not_not] at h2
 rw[←h2]
 cases x<;>rfl
theorem yS4 {k:Nat}{a:AC}(hk:a.length<k)(hl:a.length<9223372036854775808):Iz k a=some (!qE (fun i=>vY (a.getD i 0)) a.length 0):=by
 obtain ⟨x, h1, h2⟩ := rW (L := fun c i => Er k c a a.length i) (N := a.length) (fun i => !vY (a.getD i 0)) (fun c=>by
  show za k _ a a.length a.length=_
  unfold za
  simp only [qI, ak (Nat.lt_irrefl _), an]) (fun c i hi=>by
  show za k _ a a.length i=_
  unfold za OD
  simp only[qK,qM hi hl,qI,aH,ah hi,ao,yN4,aj]) hk
 unfold Iz OE
 rw[h1]
 simp only[Bool.not_not] at h2
 rw[←h2]
 cases x<;>rfl
theorem vFw {k:Nat}{a:AC}(hk:a.length<k)(hl:a.length<9223372036854775808):IA k a=some (!qE (fun i=>ef (a.getD i 0)) a.length 0):=by
 obtain ⟨x, h1, h2⟩ := rW (L := fun c i => Es k c a a.length i) (N := a.length) (fun i => !ef (a.getD i 0)) (fun c=>by
  show zb k _ a a.length a.length=_
  unfold zb
  simp only [qI, ak (Nat.lt_irrefl _), an]) (fun c i hi=>by
  show zb k _ a a.length i=_
  unfold zb OF
  simp only[qK,qM hi hl,qI,aH,ah hi,ao,vG9,aj]) hk
 unfold IA OG
 rw[h1]
 simp only[Bool.not_not] at h2
 rw[←h2]
 cases x<;>rfl
theorem yFe {k n:Nat}(hk:n<k)(hn:n≤1000)(a:AC):Et k a n=some (decide (a.length=n)&&qE (fun i=>vY (a.getD i 0)) n 0):=by
 unfold Et
 simp only[nN]
 by_cases h:a.length=n
 ·rw[yS4 (by omega) (by omega)]
  simp only[h,decide_true,ao,aj,Bool.not_not,Bool.true_and]
 ·simp only[ak h,an,Bool.false_and]
theorem vHu {k n:Nat}(hk:n<k)(hn:n≤1000)(a:AC):IB k a n=some (decide (a.length=n)&&qE (fun i=>ef (a.getD i 0)) n 0):=by
 unfold IB
 simp only[nN]
 by_cases h:a.length=n
 ·rw[vFw (by omega) (by omega)]
  simp only[h,decide_true,ao,aj,Bool.not_not,Bool.true_and]
 ·simp only[ak h,an,Bool.false_and]
theorem vHt {k n:Nat}(hk:n<k)(hn:n≤1000)(m:EQ):IC k m n=some (decide (m.length=n)&&qE (fun i=>decide ((m.getD i []).length=n)&&qE (fun j=>vY (cell m i j)) n 0) n 0):=by
 unfold IC
 simp only[nN]
 by_cases h:m.length=n
 ·have := kJ (L := fun c i => Eu k c n m n i) (N := n) (fun i => decide ((m.getD i []).length = n) && qE (fun j => vY (cell m i j)) n 0) (.inl ()) (.inr false) (fun c=>by
    show zc k _ n m n n=_
    unfold zc
    simp only [qI, ak (Nat.lt_irrefl n), an]) (fun c i hi=>by
    show zc k _ n m n i=_
    unfold zc
    simp only[qK,qM hi (by omega),qI,aH,h,ah hi,ao,yFe hk hn,aj]
    show(bif !(decide ((m.getD i []).length=n)&&qE (fun j=>vY (cell m i j)) n 0) then _ else _)=_
    generalize (decide ((m.getD i []).length=n)&&qE (fun j=>vY (cell m i j)) n 0)=r
    cases r<;>rfl) hk
  simp only[h,decide_true,aQ,an,Bool.true_and]
  rw[this]
  generalize qE _ _ _=r
  cases r<;>rfl
 ·simp only[ak h,dJ,ao,Bool.false_and]
theorem vEq {k n:Nat}(hk:n<k)(hn:n≤1000)(m:EQ):ID k m n=some (decide (m.length=n)&&qE (fun i=>decide ((m.getD i []).length=n)&&qE (fun j=>ef (cell m i j)) n 0) n 0):=by
 unfold ID
 simp only[nN]
 by_cases h:m.length=n
 ·have := kJ (L := fun c i => Ev k c n m n i) (N := n) (fun i => decide ((m.getD i []).length = n) && qE (fun j => ef (cell m i j)) n 0) (.inl ()) (.inr false) (fun c=>by
    show zd k _ n m n n=_
    unfold zd
    simp only [qI, ak (Nat.lt_irrefl n), an]) (fun c i hi=>by
    show zd k _ n m n i=_
    unfold zd
    simp only[qK,qM hi (by omega),qI,aH,h,ah hi,ao,vHu hk hn,aj]
    show(bif !(decide ((m.getD i []).length=n)&&qE (fun j=>ef (cell m i j)) n 0) then _ else _)=_
    generalize (decide ((m.getD i []).length=n)&&qE (fun j=>ef (cell m i j)) n 0)=r
    cases r<;>rfl) hk
  simp only[h,decide_true,aQ,an,Bool.true_and]
  rw[this]
  generalize qE _ _ _=r
  cases r<;>rfl
 ·simp only[ak h,dJ,ao,Bool.false_and]
theorem yTt {k N i:Nat}(hk:N<k)(hN:N≤1000)(hi:i<N){p q:EQ}{u:Int}(hp:p.length=N)(mz:∀j,j<N→(p.getD j []).length=N):
  ze k k p i q u i (p.getD i []) N 0=some (bif qE (fun j=>decide (cell p j i=zA (0-cell p i j))) N 0 then .inl (p,q,u,(i:Int)) else .inr false):=by
 refine kJ (L:=fun c j=>ze k c p i q u i (p.getD i []) N j) (N:=N) _ (.inl (p,q,u,(i:Int))) (.inr false) (fun c=>?_) (fun c j hj=>?_) hk
 ·show zg k _ p i q u i (p.getD i []) N N=_
  unfold zg
  simp only[qI,ak (Nat.lt_irrefl N),an]
 ·show zg k _ p i q u i (p.getD i []) N j=_
  unfold zg
  simp only[qK,qM hj (show N<9223372036854775808 by omega),qI,aH,hp,mz i hi,mz j hj,ah hj,ah hi,ao]
  show(bif !decide (cell p j i=zA (0-cell p i j)) then _ else _)=_
  generalize decide (cell p j i=zA (0-cell p i j))=r
  cases r<;>rfl
theorem yXw {k N:Nat}(hk:N<k)(hN:N≤1000){p:EQ}(hp:p.length=N)(mz:∀j,j<N→(p.getD j []).length=N):
  IE k p=some (pE N p):=by
 have := kJ (L := fun c i => Ew k c p p N i) (N := N) (fun i => qE (fun j => decide (cell p j i = zA (0 - cell p i j))) N 0) (.inl ()) (.inr false) (fun c=>by
   show zh k _ p p N N=_
   unfold zh
   simp only [qI, ak (Nat.lt_irrefl N), an]) (fun c i hi=>by
   show zh k _ p p N i=_
   unfold zh
   simp only[qK,qI,aH,hp,mz i hi,ah hi,ao,yTt hk hN hi hp mz,aj]
   generalize qE _ N 0=r
   cases r<;>simp only[ao,an,qM hi (show N<9223372036854775808 by omega)]) hk
 unfold IE
 simp only[hp]
 rw[this]
 have e:qE (fun i=>qE (fun j=>decide (cell p j i=zA (0-cell p i j))) N 0) N 0=pE N p:=by
  rw[Bool.eq_iff_iff]
  simp only[pE,fS]
  exact⟨fun h i hi j hj=>h j hj i hi,fun h i hi j hj=>h j hj i hi⟩
 rw[e]
 generalize pE N p=r
 cases r<;>rfl
theorem yA9 {k:Nat}(hk:10<k)(a:List qR)(b:EQ)(m:AC)(p:EQ):uF k a b m p=some (jy a b m p):=by
 unfold uF
 have l1:decide ((a.length:Int)<1)= !decide (1≤a.length):=by
  by_cases h:1≤a.length
  ·rw[ah h,ak (by omega)];rfl
  ·rw[ak h,ah (by omega)];rfl
 have l2:decide ((a.length:Int)>6)= !decide (a.length≤6):=by
  by_cases h:a.length≤6
  ·rw[ah h,ak (by omega)];rfl
  ·rw[ak h,ah (by omega)];rfl
 rw[l1,l2]
 unfold jy
 dsimp only
 by_cases h1:1≤a.length
 case neg=>rw[ak h1];rfl
 by_cases h2:a.length≤6
 case neg=>rw[ah h1,ak h2];rfl
 rw[ah h1,ah h2]
 simp only[aQ,an,Bool.true_and]
 rw[yTl (by omega) (by omega),vHt (by omega) (by omega),yFe (by omega) (by omega),vEq (by omega) (by omega)]
 simp only[aj]
 generalize hA:qE (fun i=>jZ (a.getD i (0,0,0))) a.length 0=A
 have sq:∀(q:Int→Bool) (m:EQ),(decide (m.length=a.length)&&qE (fun i=>decide ((m.getD i []).length=a.length)&&qE (fun j=>q (cell m i j)) a.length 0) a.length 0)=(jx a.length m&&my q a.length m):=by
  intro q m
  rw[Bool.eq_iff_iff]
  simp only[jx,my,bH,bD,fS]
  exact⟨fun h=>⟨⟨h.1,fun i hi=>(h.2 i hi).1⟩,fun i hi=>(h.2 i hi).2⟩,fun h=>⟨h.1.1,fun i hi=>⟨h.1.2 i hi,h.2 i hi⟩⟩⟩
 rw[sq vY b,sq ef p]
 cases hp:jx a.length p with
 |false=>
  cases A<;>cases jx a.length b<;>cases my vY a.length b<;>cases decide (m.length=a.length)<;>cases qE (fun i=>vY (m.getD i 0)) a.length 0<;>rfl
 |true=>
  simp only[jx,bH,bD,fS] at hp
  rw[yXw (N:=a.length) (by omega) (by omega) hp.1 hp.2]
  cases A<;>cases jx a.length b<;>cases my vY a.length b<;>cases decide (m.length=a.length)<;>cases qE (fun i=>vY (m.getD i 0)) a.length 0<;>cases my ef a.length p<;>cases pE a.length p<;>rfl
theorem qUy {k N:Nat}{s:EQ}(hN:s.length=N)(hl:N≤1000)(hr:∀i,i<N→(s.getD i []).length≤1000):∀(c i n:Nat),i+c=N→c<n→OH k n s i (s.take i)=some s
 |0,i,n,h,hn=>by
  obtain⟨n,rfl⟩:∃m,n=m+1:=⟨n-1,by omega⟩
  show Ey k _ s i (s.take i)=_
  unfold Ey
  have:¬i<s.length:=by omega
  simp only[qI,ak this,an]
  rw[List.take_of_length_le (by omega)]
 |c+1,i,n,h,hn=>by
  obtain⟨n,rfl⟩:∃m,n=m+1:=⟨n-1,by omega⟩
  show Ey k _ s i (s.take i)=_
  unfold Ey
  have hi:i<s.length:=by omega
  have h1:=hr i (by omega)
  have e1:zU (0+(s.getD i []).length) 8=true:=qX (by omega) (by omega)
  have e2:zU ((s.take i).length+1) 24=true:=qX (by rw[List.length_take];omega) (by rw[List.length_take];omega)
  simp only[qK,qM hi (show s.length<9223372036854775808 by omega),qI,aH,ah hi,ao,e1,e2]
  rw[dK s i [] hi]
  exact qUy hN hl hr c (i+1) n (by omega) (by omega)
theorem qSm {k:Nat}{s:EQ}(hl:s.length≤1000)(hk:s.length<k)(hr:∀i,i<s.length→(s.getD i []).length≤1000):IF k s=some s:=by
 unfold IF
 have:=qUy (k:=k) rfl hl hr s.length 0 k (by omega) hk
 rw[List.take_zero] at this
 have e:((0:Nat):Int)=0:=rfl
 rw[e] at this
 rw[this]
 rfl
theorem qV1 {k N:Nat}{s:EQ}(hN:s.length=N)(hl:N≤1000)(hr:∀i,i<N→(s.getD i []).length≤1000):∀(c i n:Nat),i+c=N→c<n→Ez k n s N i (s.take i) N=some (s,N)
 |0,i,n,h,hn=>by
  obtain⟨n,rfl⟩:∃m,n=m+1:=⟨n-1,by omega⟩
  show zi k _ s N i (s.take i) N=_
  unfold zi
  have:¬i<N:=by omega
  simp only[qI,ak this,an]
  rw[List.take_of_length_le (by omega)]
 |c+1,i,n,h,hn=>by
  obtain⟨n,rfl⟩:∃m,n=m+1:=⟨n-1,by omega⟩
  show zi k _ s N i (s.take i) N=_
  unfold zi mA
  have hi:i<N:=by omega
  have h1:=hr i (by omega)
  have e1:zU (0+(s.getD i []).length) 8=true:=qX (by omega) (by omega)
  have e2:Nat.beq i (s.take i).length=true:=by rw[List.length_take,Nat.min_eq_left (by omega)];simp
  simp only[qK,qM hi (show N<9223372036854775808 by omega),qI,aH,ah hi,ao,e1,e2,hN,aj]
  rw[dK s i [] (by omega)]
  exact qV1 hN hl hr c (i+1) n (by omega) (by omega)
theorem yMk {k:Nat}{s:EQ}(hl:s.length≤1000)(hk:s.length<k)(hr:∀i,i<s.length→(s.getD i []).length≤1000):EA k s=some s:=by
 unfold EA OI
 have:=qV1 (k:=k) rfl hl hr s.length 0 k (by omega) hk
 rw[List.take_zero] at this
 have e:((0:Nat):Int)=0:=rfl
 rw[e] at this
 have e1:zU (0+s.length) 24=true:=qX (by omega) (by omega)
 simp only[e1,ao,aj]
 rw[this]
 simp only[aj,yS9]
 simp
structure Sized (a:List qR) (b:EQ) (m:AC) (p:EQ):Prop where
 n1:1≤a.length
 n6:a.length≤6
 bl:b.length=a.length
 br:∀i,i<a.length→(b.getD i []).length=a.length
 ml:m.length=a.length
 pl:p.length=a.length
 pr:∀i,i<a.length→(p.getD i []).length=a.length
structure wO (a:List qR) (b:EQ) (m:AC) (p:EQ):Prop extends Sized a b m p where
 acct:∀i,i<a.length→jZ (a.getD i (0,0,0))=true
 mul:∀i,i<a.length→vY (m.getD i 0)=true
 bil:∀i,i<a.length→∀j,j<a.length→vY (cell b i j)=true
 net:∀i,i<a.length→∀j,j<a.length→ef (cell p i j)=true
 turn:∀i,i<a.length→∀j,j<a.length→cell p i j=zA (0-cell p j i)
theorem IG {a:List qR}{b:EQ}{m:AC}{p:EQ}:jy a b m p=true↔wO a b m p:=by
 unfold jy
 simp only[bH,bD,jx,my,pE,fS]
 constructor
 ·rintro⟨h1,h2,⟨h3,h4⟩,⟨h5,h6⟩,h7,h8,h9,EB,EC,OJ⟩
  exact{n1:=h1,n6:=h2,bl:=h3,br:=h4,ml:=h7,pl:=h5,pr:=h6,acct:=h8,mul:=h9,bil:=EB,net:=EC,turn:=OJ}
 ·intro h
  exact⟨h.n1,h.n6,⟨h.bl,h.br⟩,⟨h.pl,h.pr⟩,h.ml,h.acct,h.mul,h.bil,h.net,h.turn⟩
theorem yVj {k:Nat}(hk:10<k){a:List qR}{b:EQ}{m:AC}{p:EQ}(h:Sized a b m p):OK k a b m p=some (a,b,m,p):=by
 obtain⟨h1,h2,h3,h4,h5,h6,h7⟩:=h
 unfold OK
 have e1:zU (0+a.length) 24=true:=qX (by omega) (by omega)
 have e2:zU (0+m.length) 8=true:=qX (by omega) (by omega)
 rw[qSm (s:=b) (by omega) (by omega) (fun i hi=>by rw[h4 i (by omega)];omega),qSm (s:=p) (by omega) (by omega) (fun i hi=>by rw[h7 i (by omega)];omega)]
 simp only[e1,e2,ao,aj]
theorem ED {k:Nat}(hk:10<k){a:List qR}{b:EQ}{m:AC}{p:EQ}(h:Sized a b m p):dN k a b m p=some (a,b,m,p):=by
 obtain⟨h1,h2,h3,h4,h5,h6,h7⟩:=h
 unfold dN OM mA
 have e1:zU (0+a.length) 24=true:=qX (by omega) (by omega)
 have e2:zU (0+m.length) 8=true:=qX (by omega) (by omega)
 rw[yMk (s:=b) (by omega) (by omega) (fun i hi=>by rw[h4 i (by omega)];omega),yMk (s:=p) (by omega) (by omega) (fun i hi=>by rw[h7 i (by omega)];omega)]
 simp only[e1,e2,ao,aj]
theorem IH {α:Type}(d:α)[DecidableEq α]{a b:List α}(h:a.length=b.length):qE (fun i=>decide (a.getD i d=b.getD i d)) a.length 0=decide (a=b):=by
 rw[Bool.eq_iff_iff,fS]
 simp only[bD]
 exact⟨fun h'=>Ed d h h',fun h'=>by subst h';exact fun i hi=>rfl⟩
theorem II {k:Nat}{a b:AC}(hk:a.length<k)(hl:a.length<9223372036854775808):pF k a b=some (decide (a=b)):=by
 unfold pF
 simp only[nN]
 by_cases h:a.length=b.length
 ·have := kJ (L := fun c i => EE k c a b i) (N := a.length) (fun i => decide (a.getD i 0 = b.getD i 0)) (.inl ()) (.inr false) (fun c=>by
    show zj k _ a b a.length=_
    unfold zj
    simp only [qI, ak (Nat.lt_irrefl _), an]) (fun c i hi=>by
    show zj k _ a b i=_
    unfold zj
    simp only[qK,qM hi hl,qI,aH,←h,ah hi,ao]
    cases decide (a.getD i 0=b.getD i 0)<;>rfl) hk
  rw[IH 0 h] at this
  simp only[h,decide_true,aQ,an]
  rw[this]
  cases decide (a=b)<;>rfl
 ·simp only[ak h,dJ,ao]
  rw[ak fun e=>h (by rw[e])]
theorem ON {k:Nat}{a b:EQ}(hk:a.length<k)(hl:a.length<9223372036854775808)(hr:∀i,i<a.length→(a.getD i []).length<k∧(a.getD i []).length<9223372036854775808):uG k a b=some (decide (a=b)):=by
 unfold uG
 simp only[nN]
 by_cases h:a.length=b.length
 ·have := kJ (L := fun c i => EF k c a b i) (N := a.length) (fun i => decide (a.getD i [] = b.getD i [])) (.inl ()) (.inr false) (fun c=>by
    show zk k _ a b a.length=_
    unfold zk
    simp only [qI, ak (Nat.lt_irrefl _), an]) (fun c i hi=>by
    show zk k _ a b i=_
    unfold zk
    simp only[qK,qM hi hl,qI,aH,←h,ah hi,ao,II (hr i hi).1 (hr i hi).2,aj]
    cases decide (a.getD i []=b.getD i [])<;>rfl) hk
  rw[IH [] h] at this
  simp only[h,decide_true,aQ,an]
  rw[this]
  cases decide (a=b)<;>rfl
 ·simp only[ak h,dJ,ao]
  rw[ak fun e=>h (by rw[e])]
theorem yTw {k:Nat}(hk:10<k){a:List qR}{b:EQ}{m:AC}{p:EQ}(h:Sized a b m p)(a':List qR)(b':EQ)(m':AC)(p':EQ):
  EG k a b m p a' b' m' p'=some (decide (a=a')&&(decide (b=b')&&(decide (p=p')&&decide (m=m')))):=by
 obtain⟨h1,h2,h3,h4,h5,h6,h7⟩:=h
 unfold EG
 simp only[nN]
 by_cases hl:a.length=a'.length
 ·rw[ON (a:=b) (by omega) (by omega) (fun i hi=>by rw[h4 i (by omega)];omega),ON (a:=p) (by omega) (by omega) (fun i hi=>by rw[h7 i (by omega)];omega),II (by omega) (by omega)]
  have := kJ (L := fun c i => EH k c i a b m p a' b' m' p') (N := a.length) (fun i => decide (a.getD i (0, 0, 0) = a'.getD i (0, 0, 0))) (.inl ()) (.inr false) (fun c=>by
    show zl k _ a.length a b m p a' b' m' p'=_
    unfold zl
    simp only [qI, ak (Nat.lt_irrefl _), an]) (fun c i hi=>by
    show zl k _ i a b m p a' b' m' p'=_
    unfold zl
    simp only[qK,qM hi (show a.length<9223372036854775808 by omega),qI,aH,←hl,ah hi,ao]
    have e:decide (a.getD i (0,0,0)=a'.getD i (0,0,0))=(decide ((a.getD i (0,0,0)).1=(a'.getD i (0,0,0)).1)&&(decide ((a.getD i (0,0,0)).2.1=(a'.getD i (0,0,0)).2.1)&&decide ((a.getD i (0,0,0)).2.2=(a'.getD i (0,0,0)).2.2))):=by
     rw[Bool.eq_iff_iff]
     simp only[bH,bD]
     exact⟨fun h=>by rw[h];exact⟨rfl,rfl,rfl⟩,fun h=>Prod.ext h.1 (Prod.ext h.2.1 h.2.2)⟩
    rw[e]
    generalize (decide ((a.getD i (0,0,0)).1=(a'.getD i (0,0,0)).1)&&_)=r
    cases r<;>rfl) (show a.length<k by omega)
  rw[IH (0,0,0) hl] at this
  simp only[hl,decide_true,aQ,an,aj]
  have e0:((0:Nat):Int)=0:=rfl
  rw[this]
  cases decide (b=b')<;>cases decide (p=p')<;>cases decide (m=m')<;>cases decide (a=a')<;>rfl
 ·simp only[ak hl,dJ,ao]
  rw[ak fun e=>hl (by rw[e])]
  rfl
abbrev pd:zC:=(0,(0,(0,(0,(0,(0,0))))))
abbrev ad:qR:=(0,(0,0))
def mB (n:Nat)(p:zC):Bool:=decide (p.2.1≥0)&&(decide (p.2.1<(n:Int))&&(decide (p.2.2.1≥0)&&(decide (p.2.2.1<(n:Int))&&(!decide (p.2.1=p.2.2.1)&&(decide (p.2.2.2.1≥1)&&(decide (p.2.2.2.1≤1099511627776)&&(decide (p.2.2.2.2.1≥1)&&decide (p.2.2.2.2.1≤3))))))))
structure yP (n:Nat) (p:zC):Prop where
 f0:0≤p.2.1
 f1:p.2.1<n
 t0:0≤p.2.2.1
 t1:p.2.2.1<n
 ne:p.2.1≠p.2.2.1
 a1:1≤p.2.2.2.1
 a2:p.2.2.2.1≤1099511627776
 c1:1≤p.2.2.2.2.1
 c3:p.2.2.2.2.1≤3
theorem OO {n p}:mB n p=true↔yP n p:=by
 unfold mB
 simp
 exact⟨fun⟨h1,h2,h3,h4,h5,h6,h7,h8,h9⟩=>⟨h1,h2,h3,h4,h5,h6,h7,h8,h9⟩,fun⟨h1,h2,h3,h4,h5,h6,h7,h8,h9⟩=>by grind⟩
theorem IJ k (a:List qR) b m p i f t am c s ti:zm k a b m p i f t am c s ti=some (mB a.length (i,f,t,am,c,s,ti)):=by
 unfold zm mB
 grind
theorem yXx k (a:List qR) b m p i f t am c s ti:yJw k a b m p i f t am c s ti=some (mB a.length (i,f,t,am,c,s,ti)):=IJ k a b m p i f t am c s ti
def lE (n:Nat)(l:List zC):Bool:=qE (fun i=>mB n (l.getD i pd)) l.length 0
theorem zn {n l}:lE n l=true↔∀p∈l,yP n p:=by
 unfold lE
 rw[fS]
 constructor
 ·intro h p hp
  obtain⟨i,hi,rfl⟩:=List.getElem_of_mem hp
  have:=h i hi
  rw[List.getD_eq_getElem?_getD,List.getElem?_eq_getElem hi] at this
  exact OO.1 this
 ·intro h i hi
  exact OO.2 (by grind)
theorem yUq {k}{l:List zC}(hk:l.length<k)(hl:l.length<9223372036854775808)(a:List qR) b m p:IK k l a b m p=some (!lE a.length l):=by
 obtain ⟨x, h1, h2⟩ := rW (L := fun c i => EI k c l l.length i a b m p) (N := l.length) (fun i => !mB a.length (l.getD i pd)) (fun c=>by
  show zo k _ l l.length l.length a b m p=_
  unfold zo
  simp) (fun c i hi=>by
  show zo k _ l l.length i a b m p=_
  unfold zo OP
  simp[qK,qM hi hl,ah hi,IJ]) hk
 unfold IK OQ
 unfold lE
 grind
theorem yTg {k}{l:List zC}(hk:l.length<k)(hl:l.length<9223372036854775808)(a:List qR) b m p:OR k a b m p l=some (lE a.length l&&decide (l.length≤64)):=by
 unfold OR
 have := kJ (L := fun c i => OT k c l i a b m p) (N := l.length) (fun i => mB a.length (l.getD i pd)) (.inl l) (.inr false) (fun c=>by
  show EJ k _ l l.length a b m p=_
  unfold EJ
  simp) (fun c i hi=>by
  show EJ k _ l i a b m p=_
  unfold EJ
  simp only[qK,qM hi hl,qI,ah hi,yXx]
  simp) hk
 unfold lE
 have e:decide (((l.length:Nat):Int)≤64)=decide (l.length≤64):=by
  grind
 grind
def gB (i:Nat)(p:zC):Int:=(if p.2.2.1=i then p.2.2.2.1 else 0)-(if p.2.1=i then p.2.2.2.1 else 0)
def gS (i j:Nat)(p:zC):Int:=if p.2.1=i∧p.2.2.1=j then p.2.2.2.1 else 0
def gR (i:Nat)(p:zC):Int:=if p.2.1=i∧p.2.2.2.2.1≠3 then p.2.2.2.1 else 0
def wJ (r s:Int):Int:=if s≥r then 0 else r-s
theorem vG3 {r s t}(hs:0≤s)(ht:0≤t):wJ (wJ r s) t=wJ r (s+t):=by
 unfold wJ
 omega
theorem OU {r}(hr:0≤r):wJ r 0=r:=by
 unfold wJ
 omega
theorem yW5 {r s}:0≤wJ r s:=by
 unfold wJ
 omega
theorem yZz {r s}(hr:0≤r)(hs:0≤s):wJ r s≤r:=by
 unfold wJ
 omega
section
variable {n:Nat} {p:zC}
theorem yVe (h:yP n p) i:-1099511627776≤gB i p∧gB i p≤1099511627776:=by
 have h1:=h.a1;have h2:=h.a2;unfold gB
 omega
theorem OV (h:yP n p) i j:0≤gS i j p∧gS i j p≤1099511627776:=by
 have h1:=h.a1;have h2:=h.a2
 unfold gS
 omega
theorem IL (h:yP n p) i:0≤gR i p∧gR i p≤1099511627776:=by
 have h1:=h.a1;have h2:=h.a2
 unfold gR
 omega
end
def wE (n:Nat)(l:List zC):Prop:=(∀p∈l,yP n p)∧l.length≤64
theorem OW {n l}(h:wE n l) i:-70368744177664≤zL (gB i) l∧zL (gB i) l≤70368744177664:=by
 have h1:=yi (g:=gB i) (A:=1099511627776) fun p hp=>yVe (h.1 p hp) i
 have h2:=h.2
 omega
theorem pG {n l}(h:wE n l) i j:0≤zL (gS i j) l∧zL (gS i j) l≤70368744177664:=by
 have h1:=yi (g:=gS i j) (A:=1099511627776) fun p hp=>by have:=OV (h.1 p hp) i j;omega
 have h0:=rY (g:=gS i j) fun p hp=>(OV (h.1 p hp) i j).1
 have h2:=h.2
 omega
theorem zp {n l}(h:wE n l) i:0≤zL (gR i) l∧zL (gR i) l≤70368744177664:=by
 have h1:=yi (g:=gR i) (A:=1099511627776) fun p hp=>by have:=IL (h.1 p hp) i;omega
 have h0:=rY (g:=gR i) fun p hp=>(IL (h.1 p hp) i).1
 have h2:=h.2
 omega
theorem wE.take {n l}(h:wE n l) i:wE n (l.take i):=⟨fun p hp=>h.1 p (by grind),by rw[List.length_take];have:=h.2;omega⟩
structure pH (n:Nat) (a:List qR) (p:EQ) (l:List zC) (a':List qR) (p':EQ):Prop where
 al:a'.length=n
 acct:∀i,i<n→a'.getD i ad=((a.getD i ad).1+zL (gB i) l,(a.getD i ad).2.1,wJ (a.getD i ad).2.2 (zL (gR i) l))
 pl:p'.length=n
 pr:∀i,i<n→(p'.getD i []).length=n
 cell:∀i,i<n→∀j,j<n→cell p' i j=cell p i j+zL (gS i j) l-zL (gS j i) l
theorem vHw {n p q}(hp:p.length=n)(hq:q.length=n)(mz:∀i,i<n→(p.getD i []).length=n)(hqr:∀i,i<n→(q.getD i []).length=n)(h:∀i,i<n→∀j,j<n→cell p i j=cell q i j):p=q:=
 Ed [] (by omega) fun i hi=>Ed 0 (by simp_all) fun j hj=>h i (by omega) j (by simp_all)
theorem pH.same {n a a1 a2 p p1 p2 l}(x:pH n a p l a1 p1)(y:pH n a p l a2 p2):a1=a2∧p1=p2:=
 ⟨Ed ad (by rw[x.al,y.al]) fun i hi=>by have:=x.al;rw[x.acct i (by omega),y.acct i (by omega)],
  vHw x.pl y.pl x.pr y.pr fun i hi j hj=>by rw[x.cell i hi j hj,y.cell i hi j hj]⟩
structure IM (n:Nat) (a:List qR) (p:EQ):Prop where
 al:a.length=n
 pl:p.length=n
 pr:∀i,i<n→(p.getD i []).length=n
 bal:∀i,i<n→-4611686018427387904<(a.getD i ad).1∧(a.getD i ad).1<4611686018427387904
 res:∀i,i<n→0≤(a.getD i ad).2.2∧(a.getD i ad).2.2≤2305843009213693952
 net:∀i,i<n→∀j,j<n→-72057594037927936<cell p i j∧cell p i j<72057594037927936
theorem wO.nums {a b m p}(h:wO a b m p):IM a.length a p where
 al:=rfl
 pl:=h.pl
 pr:=h.pr
 bal:=fun i hi=>by
  have:=h.acct i hi
  show-4611686018427387904<(a.getD i (0,0,0)).1∧(a.getD i (0,0,0)).1<4611686018427387904
  simp only[jZ,bH,bD] at this
  omega
 res:=fun i hi=>by
  have:=h.acct i hi
  show 0≤(a.getD i (0,0,0)).2.2∧(a.getD i (0,0,0)).2.2≤2305843009213693952
  simp only[jZ,bH,bD] at this
  omega
 net:=fun i hi j hj=>by
  have:=h.net i hi j hj
  simp[ef] at this
  omega
theorem OX {m f t i j x}(hf:f<m.length)(ht:t<(m.getD f []).length):cell (m.set f ((m.getD f []).set t x)) i j=if i=f∧j=t then x else cell m i j:=by
 unfold cell
 grind
theorem IN {n}{m:EQ}{f t x}(hm:m.length=n)(hr:∀i,i<n→(m.getD i []).length=n)(hf:f<n):∀i,i<n→((m.set f ((m.getD f []).set t x)).getD i []).length=n:=by
 grind
def zq (p:zC)(r:List qR):List qR:=
 let y0:=r.set p.2.1.toNat (zA ((r.getD p.2.1.toNat ad).1-p.2.2.2.1),(r.getD p.2.1.toNat ad).2)
 let y1:=y0.set p.2.2.1.toNat (zA ((y0.getD p.2.2.1.toNat ad).1+p.2.2.2.1),(y0.getD p.2.2.1.toNat ad).2)
 bif !decide (p.2.2.2.2.1=3) then y1.set p.2.1.toNat ((y1.getD p.2.1.toNat ad).1,((y1.getD p.2.1.toNat ad).2.1,vR false (zA ((y1.getD p.2.1.toNat ad).2.2-p.2.2.2.1)) 0)) else y1
def sf (p:zC)(m:EQ):EQ:=
 let y3:=m.set p.2.1.toNat ((m.getD p.2.1.toNat []).set p.2.2.1.toNat (zA ((m.getD p.2.1.toNat []).getD p.2.2.1.toNat 0+p.2.2.2.1)))
 y3.set p.2.2.1.toNat ((y3.getD p.2.2.1.toNat []).set p.2.1.toNat (zA ((y3.getD p.2.2.1.toNat []).getD p.2.1.toNat 0-p.2.2.2.1)))
theorem vAx p r:(zq p r).length=r.length:=by
 unfold zq
 grind
theorem yY9 {n p}(h:yP n p){r}(hr:r.length=n){i}(hi:i<n)(hb:∀i,i<n→-4611826755915743232<(r.getD i ad).1∧(r.getD i ad).1<4611826755915743232)
  (hz:∀i,i<n→0≤(r.getD i ad).2.2∧(r.getD i ad).2.2≤2305843009213693952):(zq p r).getD i ad=((r.getD i ad).1+gB i p,(r.getD i ad).2.1,wJ (r.getD i ad).2.2 (gR i p)):=by
 obtain⟨f0,f1,t0,t1,ne,a1,a2,c1,c3⟩:=h
 obtain⟨f,hf⟩:∃f:Nat,p.2.1=f:=⟨p.2.1.toNat,by omega⟩
 obtain⟨t,ht⟩:∃t:Nat,p.2.2.1=t:=⟨p.2.2.1.toNat,by omega⟩
 have IP:f≠t:=by omega
 have eW:f<n:=by omega
 have eg:t<n:=by omega
 have bf:=hb f eW
 have bt:=hb t eg
 have zf:=hz f eW
 have e1:(r.set f (zA ((r.getD f ad).1-p.2.2.2.1),(r.getD f ad).2)).getD t ad=r.getD t ad:=by rw[jH,if_neg (fun e=>IP e.1)]
 have key:∀j,j<n→((r.set f (zA ((r.getD f ad).1-p.2.2.2.1),(r.getD f ad).2)).set t (zA ((r.getD t ad).1+p.2.2.2.1),(r.getD t ad).2)).getD j ad=((r.getD j ad).1+gB j p,(r.getD j ad).2):=by
  intro j hj
  unfold gB
  rw[hf,ht,jH]
  by_cases hjt:t=j
  ·subst hjt
   rw[if_pos (by grind),if_pos rfl,if_neg (by omega),qL (by omega) (by omega)]
   simp
  ·rw[if_neg (fun e=>hjt e.1),if_neg (by omega),jH]
   by_cases hjf:f=j
   ·subst hjf
    rw[if_pos ⟨rfl,by omega⟩,if_pos rfl,qL (by omega) (by omega)]
    simp only[Int.zero_sub];rfl
   ·rw[if_neg (fun e=>hjf e.1),if_neg (by omega)]
    simp
 unfold zq
 simp only[hf,ht,aH,e1]
 unfold gR
 cases hc:decide (p.2.2.2.2.1=3) with
 |true=>
  have ir:p.2.2.2.2.1=3:=by simpa using hc
  simp only[aQ,an]
  rw[key i hi,if_neg (fun e=>e.2 ir),OU (hz i hi).1]
 |false=>
  have ir:p.2.2.2.2.1≠3:=by simpa using hc
  simp only[dJ,ao]
  rw[jH]
  by_cases hif:f=i
  ·subst hif
   rw[if_pos (by grind),key f eW,if_pos ⟨hf,ir⟩]
   have:vR false (zA ((r.getD f ad).2.2-p.2.2.2.1)) 0=wJ (r.getD f ad).2.2 p.2.2.2.1:=by
    rw[qL (by omega) (by omega)]
    unfold vR wJ
    grind
   rw[this]
  ·rw[if_neg (fun e=>hif e.1),key i hi,if_neg (by omega),OU (hz i hi).1]
theorem yMi {n:Nat}{p:zC}(h:yP n p){m:EQ}(hm:m.length=n)(hr:∀i,i<n→(m.getD i []).length=n)(hb:∀i,i<n→∀j,j<n→-72128000000000000<cell m i j∧cell m i j<72128000000000000):
  (sf p m).length=n∧(∀i,i<n→((sf p m).getD i []).length=n)∧∀i,i<n→∀j,j<n→cell (sf p m) i j=cell m i j+gS i j p-gS j i p:=by
 obtain⟨f0,f1,t0,t1,ne,a1,a2,c1,c3⟩:=h
 obtain⟨f,hf⟩:∃f:Nat,p.2.1=f:=⟨p.2.1.toNat,by omega⟩
 obtain⟨t,ht⟩:∃t:Nat,p.2.2.1=t:=⟨p.2.2.1.toNat,by omega⟩
 have IP:f≠t:=by omega
 have eW:f<n:=by omega
 have eg:t<n:=by omega
 unfold sf
 simp only[hf,ht,aH]
 have r1:=IN (x:=zA ((m.getD f []).getD t 0+p.2.2.2.1)) (t:=t) hm hr eW
 have c1:∀i j,cell (m.set f ((m.getD f []).set t (zA ((m.getD f []).getD t 0+p.2.2.2.1)))) i j=if i=f∧j=t then zA (cell m f t+p.2.2.2.1) else cell m i j:=fun i j=>OX (by omega) (by rw[hr f eW];omega)
 refine⟨by simp only[List.length_set];exact hm,by grind,fun i hi j hj=>?_⟩
 rw[OX (by rw[List.length_set];omega) (by rw[r1 t eg];omega)]
 have e2:((m.set f ((m.getD f []).set t (zA ((m.getD f []).getD t 0+p.2.2.2.1)))).getD t []).getD f 0=cell m t f:=by
  show cell _ t f=_
  simp_all
 rw[e2,c1]
 unfold gS
 rw[hf,ht]
 have b1:=hb f eW t eg
 have b2:=hb t eg f eW
 by_cases h1:i=t∧j=f
 ·obtain⟨rfl,rfl⟩:=h1
  rw[if_pos ⟨rfl,rfl⟩,if_neg (by omega),if_pos ⟨rfl,rfl⟩,qL (by omega) (by omega)]
  omega
 ·rw[if_neg h1]
  by_cases h2:i=f∧j=t
  ·obtain⟨rfl,rfl⟩:=h2
   rw[if_pos ⟨rfl,rfl⟩,if_pos ⟨rfl,rfl⟩,if_neg (by omega),qL (by omega) (by omega)]
   omega
  omega
theorem yPx {k n a b m p l}(hk:l.length<k)(hx:IM n a p)(hl:wE n l)(b0:List qR) b1 b2 b3:
  ∃a' p',zr k k l l.length 0 b0 b1 b2 b3 a b m p=some (b0,b1,b2,b3,a',b,m,p')∧pH n a p l a' p':=by
 have := wC (L := fun c i (s : List qR × EQ) => zr k c l l.length i b0 b1 b2 b3 s.1 b m s.2) (N := l.length) (fun s => (b0, b1, b2, b3, s.1, b, m, s.2)) (fun i s => pH n a p (l.take i) s.1 s.2) (fun c s hs=>by
   show zt k _ l l.length l.length b0 b1 b2 b3 s.1 b m s.2=_
   unfold zt
   simp) (fun c i s hi hs=>by
   refine⟨(zq (l.getD i pd) s.1,sf (l.getD i pd) s.2),?_,?_⟩
   ·show zt k _ l l.length i b0 b1 b2 b3 s.1 b m s.2=_
    have bE:yP n (l.getD i pd):=hl.1 _ (jW hi)
    unfold zt zq sf
    have kM:=hl.2
    simp only[qK,qM hi (by grind),qI,aH,ah hi,ao]
    obtain⟨f0,f1,t0,t1,ne,a1,a2,c1,c3⟩:=bE
    obtain⟨f,hf⟩:∃f:Nat,(l.getD i pd).2.1=f:=⟨(l.getD i pd).2.1.toNat,by omega⟩
    obtain⟨t,ht⟩:∃t:Nat,(l.getD i pd).2.2.1=t:=⟨(l.getD i pd).2.2.1.toNat,by omega⟩
    have eW:f<n:=by omega
    have eg:t<n:=by omega
    have r1:=IN (x:=zA ((s.2.getD f []).getD t 0+(l.getD i pd).2.2.2.1)) (t:=t) hs.pl hs.pr eW
    simp only[hf,ht,aH,qK,hs.al,hs.pl,List.length_set,hs.pr f eW,r1 t eg,ah eW,ah eg,ao,sg,aj]
    grind
   ·have bE:yP n (l.getD i pd):=hl.1 _ (jW hi)
    have aL:=hl.take i
    have hp := yMi bE hs.pl hs.pr (fun i' bm j' jk=>by
     rw[hs.cell i' bm j' jk]
     have h1:=hx.net i' bm j' jk
     have h2:=pG aL i' j'
     have h3:=pG aL j' i'
     omega)
    refine⟨by rw[vAx];exact hs.al,fun i' bm=>?_,hp.1,hp.2.1,fun i' bm j' jk=>?_⟩
    ·rw [yY9 bE hs.al bm (fun j hj=>by
       rw[hs.acct j hj]
       have h1:=hx.bal j hj
       have h2:=OW aL j
       dsimp only
       omega) (fun j hj=>by
       rw[hs.acct j hj]
       have h1:=hx.res j hj
       have h2:=zp aL j
       dsimp only
       exact⟨yW5,Int.le_trans (yZz h1.1 h2.1) h1.2⟩),hs.acct i' bm,←dK l i pd hi,iM,iM]
     dsimp only[zL]
     rw[vG3 (zp aL i').1 (IL bE i').1,Int.add_zero,Int.add_zero,Int.add_assoc]
    ·rw[hp.2.2 i' bm j' jk,hs.cell i' bm j' jk,←dK l i pd hi,iM,iM]
     dsimp only[zL]
     omega) (s:=(a,p)) hk ⟨hx.al,fun i hi=>by
      rw[List.take_zero]
      show a.getD i ad=((a.getD i ad).1+0,(a.getD i ad).2.1,wJ (a.getD i ad).2.2 0)
      rw[OU (hx.res i hi).1,Int.add_zero],hx.pl,hx.pr,fun i hi j hj=>by
      rw[List.take_zero]
      show cell p i j=cell p i j+0-0
      omega⟩
 simp_all
theorem qTr {k n l}(hk:l.length<k)(hl:wE n l)(i j:Nat):IQ k l i j=some (zL (gS i j) l):=by
 have kM:=hl.2
 obtain ⟨s, h1, h2⟩ := wC (L := fun c x (s : Int) => OY k c l i j s x) (N := l.length) (fun s => s) (fun x s => s = zL (gS i j) (l.take x)) (fun c s hs=>by
   show EK k _ l i j s l.length=_
   unfold EK
   simp) (fun c x s hx hs=>by
   refine⟨zL (gS i j) (l.take (x+1)),?_,rfl⟩
   show EK k _ l i j s x=_
   have hb:=pG (hl.take x) i j
   have hm:yP n (l.getD x pd):=hl.1 _ (by grind)
   have e:zL (gS i j) (l.take (x+1))=s+gS i j (l.getD x pd):=by
    rw[←dK l x pd hx,iM,hs]
    show _+(_+0)=_
    omega
   have w:=qL (x:=s+(l.getD x pd).2.2.2.1) (by have:=hm.a1;omega) (by have:=hm.a2;omega)
   unfold EK
   simp[qK,qM hx (by grind)]
   rw[e]
   unfold gS
   grind) (s:=0) hk rfl
 unfold IQ
 simp_all
theorem yP3 {k n l}(hk:l.length<k)(hl:wE n l)(i j:Nat):OZ k l i j=some (zL (gS i j) l-zL (gS j i) l):=by
 unfold OZ
 rw[qTr hk hl i j,qTr hk hl j i]
 have h1:=pG hl i j
 have h2:=pG hl j i
 simp
 rw[qL (by omega) (by omega)]
def gN (i:Nat)(p:zC):Int:=if p.2.1=i∧p.2.2.2.2.1=3 then p.2.2.2.1 else 0
theorem IS {n p}(h:yP n p) i:0≤gN i p∧gN i p≤1099511627776:=by
 have h1:=h.a1;have h2:=h.a2
 unfold gN
 omega
theorem vIc {n l}(h:wE n l) i:0≤zL (gN i) l∧zL (gN i) l≤70368744177664:=by
 have h1:=yi (g:=gN i) (A:=1099511627776) fun p hp=>by have:=IS (h.1 p hp) i;omega
 have h0:=rY (g:=gN i) fun p hp=>(IS (h.1 p hp) i).1
 have h2:=h.2
 omega
theorem vFo {k n:Nat}{l}(hk:l.length<k)(hl:wE n l)(i:Nat):O0 k l i=some (zL (gN i) l,zL (gR i) l):=by
 have kM:=hl.2
 obtain ⟨s, h1, h2⟩ := wC (L := fun c x (s : Int × Int) => O1 k c l i s.1 s.2 x) (N := l.length) (fun s => s) (fun x s => s = (zL (gN i) (l.take x), zL (gR i) (l.take x))) (fun c s hs=>by
   show EL k _ l i s.1 s.2 l.length=_
   unfold EL
   simp) (fun c x s hx hs=>by
   refine⟨(zL (gN i) (l.take (x+1)),zL (gR i) (l.take (x+1))),?_,rfl⟩
   show EL k _ l i s.1 s.2 x=_
   have hb:=vIc (hl.take x) i
   have bj:=zp (hl.take x) i
   have hm:yP n (l.getD x pd):=hl.1 _ (by grind)
   have e:zL (gN i) (l.take (x+1))=s.1+gN i (l.getD x pd):=by
    rw[←dK l x pd hx,iM,hs]
    show _+(_+0)=_
    omega
   have e':zL (gR i) (l.take (x+1))=s.2+gR i (l.getD x pd):=by
    rw[←dK l x pd hx,iM,hs]
    show _+(_+0)=_
    omega
   have w:=qL (x:=s.1+(l.getD x pd).2.2.2.1) (by have:=hm.a1;grind) (by have:=hm.a2;grind)
   have w':=qL (x:=s.2+(l.getD x pd).2.2.2.1) (by have:=hm.a1;rw[hs];omega) (by have:=hm.a2;grind)
   unfold EL
   simp only[qK,qM hx (by grind),qI,ao]
   rw[e,e']
   unfold gN gR
   grind) (s:=(0,0)) hk rfl
 unfold O0
 simp_all
theorem vDm {k n l}(hk:l.length<k)(hl:wE n l)(i:Nat):O2 k l i=some (zL (gR i) l):=by
 unfold O2
 rw[vFo hk hl i]
 rfl
theorem yY1 k b c r s (h:-9223372036854775808≤r-s)(h':r<9223372036854775808)(hs:0≤s):O3 k b c r s=some (wJ r s):=by
 unfold O3 wJ
 by_cases e:s≥r
 ·simp_all
 ·rw[ak e,if_neg e,qL h (by omega)];rfl
theorem qXj {n l}(hl:∀p∈l,yP n p) i (hi:i<n):qG (fun j=>zL (gS i j) l-zL (gS j i) l) n= -zL (gB i) l:=by
 have e1:qG (fun j=>zL (gS i j) l-zL (gS j i) l) n=qG (fun j=>zL (fun p=>gS i j p-gS j i p) l) n:=mv fun j _=>(Ol _ _ l).symm
 rw[e1,Ii (fun j p=>gS i j p-gS j i p)]
 have e2:∀p∈l,qG (fun j=>gS i j p-gS j i p) n=0-gB i p:=by
  intro p hp
  obtain⟨f0,f1,t0,t1,ne,a1,a2,c1,c3⟩:=hl p hp
  obtain⟨f,hf⟩:∃f:Nat,p.2.1=f:=⟨p.2.1.toNat,by omega⟩
  obtain⟨t,ht⟩:∃t:Nat,p.2.2.1=t:=⟨p.2.2.1.toNat,by omega⟩
  have g1:∀j,gS i j p-gS j i p=(if j=t then(if f=i then p.2.2.2.1 else 0) else 0)+(if j=f then(if t=i then-p.2.2.2.1 else 0) else 0):=by
   unfold gS
   omega
  rw[mv fun j _=>g1 j,yj,uz,uz]
  unfold gB
  omega
 rw[Ih e2,Ol]
 have:zL (fun _:zC=>(0:Int)) l=0:=by
  clear e1 e2 hl
  induction l with
  |nil=>rfl
  |cons p l ih=>show 0+zL _ l=0;omega
 omega
structure yP8 (n:Nat) (a:List qR) (p:EQ) (l:List zC) (i:Nat) (a':List qR) (p':EQ):Prop where
 al:a'.length=n
 done:∀x,x<n→x<i→a'.getD x ad=((a.getD x ad).1+zL (gB x) l,(a.getD x ad).2.1,wJ (a.getD x ad).2.2 (zL (gR x) l))
 rest:∀x,x<n→¬x<i→a'.getD x ad=a.getD x ad
 pl:p'.length=n
 pr:∀x,x<n→(p'.getD x []).length=n
 cell:∀x,x<n→∀y,y<n→cell p' x y=if x<i then cell p x y+zL (gS x y) l-zL (gS y x) l else cell p x y
structure O4 (n:Nat) (a:List qR) (p:EQ) (l:List zC) (i j:Nat) (a':List qR) (p':EQ):Prop where
 al:a'.length=n
 done:∀x,x<n→x<i→a'.getD x ad=((a.getD x ad).1+zL (gB x) l,(a.getD x ad).2.1,wJ (a.getD x ad).2.2 (zL (gR x) l))
 here:a'.getD i ad=((a.getD i ad).1-qG (fun j=>zL (gS i j) l-zL (gS j i) l) j,(a.getD i ad).2.1,wJ (a.getD i ad).2.2 (zL (gR i) l))
 rest:∀x,x<n→i<x→a'.getD x ad=a.getD x ad
 pl:p'.length=n
 pr:∀x,x<n→(p'.getD x []).length=n
 cell:∀x,x<n→∀y,y<n→cell p' x y=if x<i∨(x=i∧y<j) then cell p x y+zL (gS x y) l-zL (gS y x) l else cell p x y
theorem yNm {k n a p l}(hk:n<k)(cp:l.length<k)(hn:n≤1000)(hx:IM n a p)(hl:wE n l){i}(hi:i<n)(b0:List qR) b1 b2 b3 b m
  {a0 p0} (h0:O4 n a p l i 0 a0 p0):∃a' p',IT k k l i 0 b0 b1 b2 b3 a0 b m p0=some (l,(i:Int),b0,b1,b2,b3,a',b,m,p')∧O4 n a p l i n a' p':=by
 obtain ⟨s, h1, h2⟩ := wC (L := fun c j (s : List qR × EQ) => IT k c l i j b0 b1 b2 b3 s.1 b m s.2) (N := n) (fun s => (l, (i : Int), b0, b1, b2, b3, s.1, b, m, s.2)) (fun j s => O4 n a p l i j s.1 s.2) (fun c s hs=>by
   show EM k _ l i n b0 b1 b2 b3 s.1 b m s.2=_
   unfold EM
   simp only [qI, hs.al, ak (Nat.lt_irrefl _), an]) (fun c j s hj hs=>by
   refine⟨(s.1.set i (zA ((s.1.getD i ad).1-(zL (gS i j) l-zL (gS j i) l)),(s.1.getD i ad).2),s.2.set i ((s.2.getD i []).set j (zA ((s.2.getD i []).getD j 0+(zL (gS i j) l-zL (gS j i) l))))),?_,?_⟩
   ·show EM k _ l i j b0 b1 b2 b3 s.1 b m s.2=_
    unfold EM
    simp only[qK,qM hj (by grind),qI,aH,hs.al,hs.pl,hs.pr i hi,ah hi,ah hj,ao,yP3 cp hl,aj]
   ·have hb:=hx.bal i hi
    have hg:∀j,-70368744177664≤zL (gS i j) l-zL (gS j i) l∧zL (gS i j) l-zL (gS j i) l≤70368744177664:=fun j=>by
     have h1:=pG hl i j
     have h2:=pG hl j i
     omega
    have Dc:=Ec hg j
    have Ob:=hg j
    have EN:=hx.net i hi j hj
    have hc:=hs.cell i hi j hj
    rw[if_neg (by omega)] at hc
    refine⟨by simp only[List.length_set];exact hs.al,fun x fU si=>?_,?_,fun x fU si=>?_,by simp only[List.length_set];exact hs.pl,IN hs.pl hs.pr hi,fun x fU y EO=>?_⟩
    ·rw[jH,if_neg (by grind)]
     exact hs.done x fU si
    ·rw[jH,if_pos ⟨rfl,by rw[hs.al];exact hi⟩,hs.here]
     dsimp only
     rw[qL (by omega) (by omega)]
     show(_,_)=((a.getD i ad).1-(qG _ j+_),_)
     grind
    ·rw[jH,if_neg (by grind)]
     exact hs.rest x fU si
    ·have e:(s.2.getD i []).getD j 0=cell p i j:=hc
     rw[OX (by rw[hs.pl];exact hi) (by rw[hs.pr i hi];exact hj),e]
     by_cases IU:x=i∧y=j
     ·obtain⟨rfl,rfl⟩:=IU
      rw[if_pos ⟨rfl,rfl⟩,if_pos (by omega),qL (by omega) (by omega)]
      omega
     ·rw[if_neg IU,hs.cell x fU y EO]
      omega) (s:=(a0,p0)) hk h0
 grind
theorem vGh {k n a b m p l}(hk:n<k)(cp:l.length<k)(hn:n≤1000)(hx:IM n a p)(hl:wE n l)(b0:List qR) b1 b2 b3:
  ∃a' p',IV k k l 0 b0 b1 b2 b3 a b m p=some (b0,b1,b2,b3,a',b,m,p')∧pH n a p l a' p':=by
 obtain ⟨s, h1, h2⟩ := wC (L := fun c i (s : List qR × EQ) => IV k c l i b0 b1 b2 b3 s.1 b m s.2) (N := n) (fun s => (b0, b1, b2, b3, s.1, b, m, s.2)) (fun i s => yP8 n a p l i s.1 s.2) (fun c s hs=>by
   show EP k _ l n b0 b1 b2 b3 s.1 b m s.2=_
   unfold EP
   simp only [qI, hs.al, ak (Nat.lt_irrefl _), an]) (fun c i s hi hs=>by
   have hai:=hs.rest i hi (by simp)
   have hr:=hx.res i hi
   have hsp:=zp hl i
   obtain⟨a',p',h1,h2⟩:=yNm (a0:=s.1.set i ((s.1.getD i ad).1,((s.1.getD i ad).2.1,wJ (s.1.getD i ad).2.2 (zL (gR i) l)))) (p0:=s.2) hk cp hn hx hl hi b0 b1 b2 b3 b m ⟨by rw[List.length_set];exact hs.al,fun x fU si=>by
     rw[jH,if_neg (by grind)];exact hs.done x fU si,by
     rw[jH,if_pos ⟨rfl,by rw[hs.al];exact hi⟩,hai]
     show _=((a.getD i ad).1-0,_,_)
     simp,fun x fU si=>by
     rw[jH,if_neg (by grind)];exact hs.rest x fU (by omega),hs.pl,hs.pr,fun x fU y EO=>by
     rw[hs.cell x fU y EO]
     omega⟩
   refine⟨(a',p'),?_,?_⟩
   ·show EP k _ l i b0 b1 b2 b3 s.1 b m s.2=_
    unfold EP
    have hK:=yY1 k (s.1.getD i ad).1 (s.1.getD i ad).2.1 (s.1.getD i ad).2.2 (zL (gR i) l) (by grind) (by grind) hsp.1
    simp only[qK,qI,aH,hs.al,ah hi,ao,vDm cp hl,aj]
    rw[hK]
    simp only[aj]
    rw[h1]
    simp only[aj,qM hi (by grind)]
   ·refine⟨h2.al,fun x fU si=>?_,fun x fU si=>h2.rest x fU (by omega),h2.pl,h2.pr,fun x fU y EO=>?_⟩
    ·by_cases h:x<i
     ·exact h2.done x fU h
     ·have:x=i:=by omega
      subst this
      rw[h2.here,qXj hl.1 x fU]
      simp
    ·rw[h2.cell x fU y EO]
     omega) (s:=(a,p)) hk ⟨hx.al,by simp,by simp,hx.pl,hx.pr,by simp⟩
 exact⟨s.1,s.2,h1,h2.al,fun i hi=>h2.done i hi hi,h2.pl,h2.pr,fun i hi j hj=>by rw[h2.cell i hi j hj,if_pos hi]⟩
def nQ (a:List qR)(b:EQ)(m:AC)(p:EQ)(l:List zC)(r:List qR×EQ×AC×EQ×Int):Prop:=
 (wE a.length l→∃a' p',pH a.length a p l a' p'∧r=(bif jy a' b m p' then(a',b,m,p',0) else(a,b,m,p,8)))∧(¬wE a.length l→r=(a,b,m,p,1))
theorem IW {k}(hk:100<k){a b m p}{l:List zC}(h:wO a b m p)(hl:l.length≤80):∃r,mC k a b m p l=some r∧nQ a b m p l r:=by
 unfold mC nQ
 have e:decide (((l.length:Nat):Int)>64)=decide (¬l.length≤64):=by
  grind
 rw[e]
 by_cases cy:l.length≤64
 case neg=>
  rw[ah cy]
  exact⟨_,rfl,fun e=>absurd e.2 cy,by simp⟩
 rw[ak (by omega),yUq (by omega) (by omega)]
 cases hm:lE a.length l with
 |false=>
  refine⟨_,rfl,fun e=>?_,by simp⟩
  rw[zn.2 e.1] at hm
  cases hm
 |true=>
  have aL:wE a.length l:=⟨zn.1 hm,cy⟩
  simp only[ED (show 10<k by omega) h.toSized,aj]
  obtain⟨a',p',h1,h2⟩:=yPx (b:=b) (m:=m) (show l.length<k by omega) h.nums aL a b m p
  rw[h1]
  simp only[aj,yA9 (show 10<k by omega)]
  cases hB:jy a' b m p' with
  |true=>exact⟨_,rfl,by grind,by grind⟩
  |false=>exact⟨_,rfl,by grind,by grind⟩
theorem vJu {k}(hk:100<k){a b m p}{l:List zC}(h:wO a b m p)(hl:l.length≤80):∃r,O5 k a b m p l=some r∧nQ a b m p l r:=by
 unfold O5 nQ
 rw[yTg (by omega) (by omega)]
 cases hm:lE a.length l with
 |false=>
  refine⟨_,rfl,fun e=>?_,by simp⟩
  rw[zn.2 e.1] at hm
  cases hm
 |true=>
  by_cases cy:l.length≤64
  case neg=>
   rw[ak cy]
   exact⟨_,rfl,fun e=>absurd e.2 cy,by simp⟩
  have aL:wE a.length l:=⟨zn.1 hm,cy⟩
  have h6:=h.n6
  rw[ah cy]
  simp only[yVj (show 10<k by omega) h.toSized,aj]
  obtain⟨a',p',h1,h2⟩:=vGh (b:=b) (m:=m) (show a.length<k by omega) (by grind) (by omega) h.nums aL a b m p
  rw[h1]
  simp only[aj,vJ3 (show 10<k by omega)]
  cases hB:jy a' b m p' with
  |true=>exact⟨_,rfl,by grind,by grind⟩
  |false=>exact⟨_,rfl,by grind,by grind⟩
theorem nQ.same {a b m p l r r'}(h:nQ a b m p l r)(h':nQ a b m p l r'):r=r':=by
 by_cases c:wE a.length l
 ·obtain⟨a1,p1,x,rfl⟩:=h.1 c
  obtain⟨a2,p2,y,rfl⟩:=h'.1 c
  obtain⟨rfl,rfl⟩:=x.same y
  rfl
 ·rw[h.2 c,h'.2 c]
theorem yDs {a b m p}(hb:wO a b m p){i}(hi:i<a.length) j:-72057594037927936≤cell p i j∧cell p i j≤72057594037927936:=by
 by_cases hj:j<a.length
 ·have:=hb.net i hi j hj
  simp[ef] at this
  omega
 ·have:cell p i j=0:=by
   unfold cell
   rw[List.getD_eq_getElem?_getD,List.getElem?_eq_none]
   ·rfl
   ·rw[hb.pr i hi];omega
  omega
theorem qX0 {S X:Type}{L:Nat→Int→S→Option X}{N:Nat}(ok:Nat→Bool)(e:S→X)(b:X)(inv:Nat→S→Prop)(bq:∀n s,inv N s→L (n+1) (N:Int) s=some (e s))
  (aC:∀n i s,i<N→inv i s→(ok i=true→∃s',L (n+1) (i:Int) s=L n ((i+1:Nat):Int) s'∧inv (i+1) s')∧(ok i=false→L (n+1) (i:Int) s=some b)):
  ∀c i n s,i+c=N→c<n→inv i s→(qE ok c i=true∧∃s',L n (i:Int) s=some (e s')∧inv N s')∨(qE ok c i=false∧L n (i:Int) s=some b)
 |0,i,n,s,h,hn,hs=>by
  obtain⟨n,rfl⟩:∃m,n=m+1:=⟨n-1,by omega⟩
  have:i=N:=by omega
  subst this
  exact .inl ⟨rfl,s,bq n s hs,hs⟩
 |c+1,i,n,s,h,hn,hs=>by
  obtain⟨n,rfl⟩:∃m,n=m+1:=⟨n-1,by omega⟩
  obtain⟨h1,h2⟩:=aC n i s (by omega) hs
  unfold qE
  cases ho:ok i with
  |true=>
   obtain⟨s',h3,h4⟩:=h1 ho
   rw[h3]
   simp only[Bool.true_and]
   exact qX0 ok e b inv bq aC c (i+1) n s' (by omega) (by omega) h4
  |false=>exact .inr ⟨rfl,h2 ho⟩
def dS (l:List zC)(i j:Nat):Int:=zL (gS i j) l-zL (gS j i) l
def IX (b p:EQ)(l:List zC)(i j:Nat):Bool:= !(decide (zL (gS i j) l>0)&&(!decide (cell b i j= -1)&&decide (cell p i j+dS l i j>cell b i j)))
def jz (a:List qR)(b:EQ)(m:AC)(p:EQ)(l:List zC)(i:Nat):Bool:=
 !decide (zL (gN i) l + zL (gR i) l = 0) && (!qE (IX b p l i) a.length 0 || (decide ((a.getD i ad).1+(a.getD i ad).2.1+zL (gB i) l<0)||
  ((decide (zL (gN i) l>0)&&decide ((a.getD i ad).1+(a.getD i ad).2.1+zL (gB i) l<wJ (a.getD i ad).2.2 (zL (gR i) l)))||
   (!decide (m.getD i 0= -1)&&decide (qG (cell p i) a.length-zL (gB i) l>m.getD i 0)))))
theorem IY {n:Nat}{l:List zC}(hl:wE n l)(i j:Nat):-70368744177664≤dS l i j∧dS l i j≤70368744177664:=by
 have h1:=pG hl i j
 have h2:=pG hl j i
 unfold dS
 omega
theorem vJe {n:Nat}{l:List zC}(hl:∀p∈l,yP n p)(i:Nat)(hi:i<n):qG (dS l i) n= -zL (gB i) l:=qXj hl i hi
def zu (a:List qR)(b:EQ)(m:AC)(p:EQ)(l:List zC):Bool:=(lE a.length l&&decide (l.length≤64))&&qE (fun i=> !jz a b m p l i) a.length 0
theorem vIi {k n i p}(hk:n<k)(hn:n≤100)(hi:i<n)(hp:p.length=n)(hr:(p.getD i []).length=n)(hb:∀j,-72057594037927936≤cell p i j∧cell p i j≤72057594037927936)(a:List qR) b m:
  IZ k a b m p i=some (qG (cell p i) n):=by
 obtain ⟨s, h1, h2⟩ := wC (L := fun c j (s : Int) => zv k c s (p.getD i []) n j) (N := n) (fun s => s) (fun j s => s = qG (cell p i) j) (fun c s hs=>by
   show zw k _ s (p.getD i []) n n=_
   unfold zw
   simp) (fun c j s hj hs=>by
   refine⟨qG (cell p i) (j+1),?_,rfl⟩
   show zw k _ s (p.getD i []) n j=_
   have h1:=Ec hb j
   have h2:=hb j
   unfold zw
   simp only[qK,qM hj (by grind),qI,hr,ah hj]
   show zv k c (zA (s+cell p i j)) _ _ _=_
   rw[hs,qL (by omega) (by omega)]
   rfl) (s:=0) hk rfl
 unfold IZ
 simp[qK]
 simp_all
theorem yAn k {n:Nat}(hn:n≤6):ER k n=some true:=by
 unfold ER
 grind
theorem qRk {α:Type}(v z:α) n i (hi:i<n):(List.replicate i v++List.replicate (n-i) z).set i v=List.replicate (i+1) v++List.replicate (n-(i+1)) z:=by
 have e:List.replicate (n-i) z=z::List.replicate (n-(i+1)) z:=by
  rw[show n-i=(n-(i+1))+1 by omega];rfl
 rw[List.set_append_right _ _ (by simp),List.length_replicate,Nat.sub_self,e]
 simp[List.replicate_succ']
theorem yAi {k n}(hk:n<k)(hn:n≤6) v:uH k n v=some (List.replicate n v):=by
 unfold uH
 rw[yAn k hn]
 obtain ⟨s, h1, h2⟩ := wC (L := fun c i (s : AC) => ES k c v n i s) (N := n) (fun s => s) (fun i s => s = List.replicate i v ++ List.replicate (n - i) 0) (fun c s hs=>by
   show zx k _ v n n s=_
   unfold zx
   simp) (fun c i s hi hs=>by
   refine⟨_,?_,rfl⟩
   show zx k _ v n i s=_
   have hl:s.length=n:=by grind
   unfold zx
   simp[qK,qM hi (by grind),ah hi,hl]
   rw[hs,qRk v 0 n i hi]) (s:=List.replicate n 0) hk (by simp)
 grind
theorem vJ6 {k n}(hk:n<k)(hn:n≤6) v:zy k n v=some (List.replicate n (List.replicate n v)):=by
 unfold zy
 rw[yAn k hn]
 obtain ⟨s, h1, h2⟩ := wC (L := fun c i (s : EQ) => ET k c n v n i s) (N := n) (fun s => s) (fun i s => s = List.replicate i (List.replicate n v) ++ List.replicate (n - i) []) (fun c s hs=>by
   show zz k _ n v n n s=_
   unfold zz
   simp) (fun c i s hi hs=>by
   refine⟨_,?_,rfl⟩
   show zz k _ n v n i s=_
   have hl:s.length=n:=by grind
   unfold zz
   simp[qK,qM hi (by grind),ah hi,hl,yAi hk hn]
   rw[hs,qRk (List.replicate n v) [] n i hi]) (s:=List.replicate n []) hk (by simp)
 grind
def uI (a:List qR)(b:EQ)(m:AC)(p:EQ)(l:List zC):AC:=((List.range a.length).filter fun i=>jz a b m p l i).map fun(i:Nat)=>(i:Int)
structure I1 (n:Nat) (l:List zC) (r2 r3:AC) (m4:EQ):Prop where
 l2:r2.length=n
 l3:r3.length=n
 l4:m4.length=n
 r4:∀i,i<n→(m4.getD i []).length=n
 more:∀i,i<n→r2.getD i 0=zL (gB i) l
 spent:∀i,i<n→r3.getD i 0=zL (gR i) l
 sent:∀i,i<n→∀j,j<n→cell m4 i j=dS l i j
def EU (p:zC)(r:AC):AC:=
 let y0:=r.set p.2.1.toNat (zA (r.getD p.2.1.toNat 0-p.2.2.2.1))
 y0.set p.2.2.1.toNat (zA (y0.getD p.2.2.1.toNat 0+p.2.2.2.1))
def EV (p:zC)(r:AC):AC:=bif !decide (p.2.2.2.2.1=3) then r.set p.2.1.toNat (zA (r.getD p.2.1.toNat 0+p.2.2.2.1)) else r
theorem yRb {n p}(h:yP n p){r}(hr:r.length=n){i}(hi:i<n)(hb:∀i,i<n→-4611826755915743232<r.getD i 0∧r.getD i 0<4611826755915743232):(EU p r).getD i 0=r.getD i 0+gB i p:=by
 obtain⟨f0,f1,t0,t1,ne,a1,a2,c1,c3⟩:=h
 obtain⟨f,hf⟩:∃f:Nat,p.2.1=f:=⟨p.2.1.toNat,by omega⟩
 obtain⟨t,ht⟩:∃t:Nat,p.2.2.1=t:=⟨p.2.2.1.toNat,by omega⟩
 have IP:f≠t:=by omega
 have eW:f<n:=by omega
 have eg:t<n:=by omega
 unfold EU gB
 simp only[hf,ht,aH]
 have b1:=hb f eW
 have b2:=hb t eg
 have key:∀x,(r.set f (zA (r.getD f 0-p.2.2.2.1))).getD x 0=if f=x then zA (r.getD f 0-p.2.2.2.1) else r.getD x 0:=by grind
 rw[jH,List.length_set,key t,if_neg IP,key i]
 by_cases h1:t=i
 ·subst h1
  rw[if_pos (by grind),if_pos rfl,if_neg (by omega),qL (by omega) (by omega)]
  omega
 ·rw[if_neg (by grind),if_neg (c:=((t:Int)=i)) (by omega)]
  by_cases h2:f=i
  ·subst h2
   rw[if_pos rfl,if_pos rfl,qL (by omega) (by omega)]
   omega
  omega
theorem yWu {n p}(h:yP n p){r}(hr:r.length=n){i}(hi:i<n)(hb:∀i,i<n→-4611826755915743232<r.getD i 0∧r.getD i 0<4611826755915743232):(EV p r).getD i 0=r.getD i 0+gR i p:=by
 obtain⟨f0,f1,t0,t1,ne,a1,a2,c1,c3⟩:=h
 obtain⟨f,hf⟩:∃f:Nat,p.2.1=f:=⟨p.2.1.toNat,by omega⟩
 have eW:f<n:=by omega
 have b1:=hb f eW
 unfold EV gR
 simp only[hf,aH]
 by_cases hc:p.2.2.2.2.1=3
 ·simp_all
 ·rw[ak hc]
  simp only[dJ,ao]
  rw[jH]
  by_cases h2:f=i
  ·subst h2
   rw[if_pos (by grind),if_pos (by grind),qL (by omega) (by omega)]
  omega
theorem yV1 l p i j:dS (l++[p]) i j=dS l i j+gS i j p-gS j i p:=by
 unfold dS
 rw[iM,iM]
 dsimp only[zL]
 omega
theorem I2 {α:Type} n i (v d:α)(h:i<n):(List.replicate n v).getD i d=v:=by
 simp_all
theorem vCh {k n l}(hk:100<k)(hn:n≤6)(hl:wE n l):∃r2 r3 m4,I3 k n l=some (r2,r3,m4)∧I1 n l r2 r3 m4:=by
 have kM:=hl.2
 have := wC (L := fun c i (s : AC × AC × EQ) => EW k c l l.length i s.1 s.2.1 s.2.2) (N := l.length) (fun s => s) (fun i s => I1 n (l.take i) s.1 s.2.1 s.2.2) (fun c s hs=>by
   show z8 k _ l l.length l.length s.1 s.2.1 s.2.2=_
   unfold z8
   simp) (fun c i s hi hs=>by
   have bE:yP n (l.getD i pd):=hl.1 _ (jW hi)
   refine⟨(EU (l.getD i pd) s.1,EV (l.getD i pd) s.2.1,sf (l.getD i pd) s.2.2),?_,?_⟩
   ·show z8 k _ l l.length i s.1 s.2.1 s.2.2=_
    unfold z8 EU EV sf
    simp only[qK,qM hi (by grind),qI,aH,ah hi,ao]
    obtain⟨f0,f1,t0,t1,ne,a1,a2,c1,c3⟩:=bE
    obtain⟨f,hf⟩:∃f:Nat,(l.getD i pd).2.1=f:=⟨(l.getD i pd).2.1.toNat,by omega⟩
    obtain⟨t,ht⟩:∃t:Nat,(l.getD i pd).2.2.1=t:=⟨(l.getD i pd).2.2.1.toNat,by omega⟩
    have eW:f<n:=by omega
    have eg:t<n:=by omega
    have r1:=IN (x:=zA ((s.2.2.getD f []).getD t 0+(l.getD i pd).2.2.2.1)) (t:=t) hs.l4 hs.r4 eW
    simp only[hf,ht,aH,qK,hs.l2,hs.l3,hs.l4,List.length_set,hs.r4 f eW,r1 t eg,ah eW,ah eg,ao]
    grind
   ·have aL:=hl.take i
    have hp := yMi bE hs.l4 hs.r4 (fun i' bm j' jk=>by
     rw[hs.sent i' bm j' jk]
     have:=IY aL i' j'
     omega)
    have hbM:∀i',i'<n→-4611826755915743232<s.1.getD i' 0∧s.1.getD i' 0<4611826755915743232:=fun i' bm=>by
     rw[hs.more i' bm];have:=OW aL i';omega
    have hbS:∀i',i'<n→-4611826755915743232<s.2.1.getD i' 0∧s.2.1.getD i' 0<4611826755915743232:=fun i' bm=>by
     rw[hs.spent i' bm];have:=zp aL i';omega
    refine⟨by unfold EU;simp[hs.l2],by unfold EV;cases decide ((l.getD i pd).2.2.2.2.1=3)<;>simp[hs.l3],hp.1,hp.2.1,fun i' bm=>?_,fun i' bm=>?_,fun i' bm j' jk=>?_⟩
    ·rw[yRb bE hs.l2 bm hbM,hs.more i' bm,←dK l i pd hi,iM]
     dsimp only[zL]
     omega
    ·rw[yWu bE hs.l3 bm hbS,hs.spent i' bm,←dK l i pd hi,iM]
     dsimp only[zL]
     omega
    ·rw[hp.2.2 i' bm j' jk,hs.sent i' bm j' jk,←dK l i pd hi,yV1]) (n:=k) (s:=(List.replicate n 0,List.replicate n 0,List.replicate n (List.replicate n 0))) (by omega) ⟨by simp,by simp,by simp,by grind,fun i hi=>by rw[I2 n i _ _ hi];rfl,fun i hi=>by rw[I2 n i _ _ hi];rfl,fun i hi j hj=>by
    unfold cell
    rw[I2 n i _ _ hi,I2 n j _ _ hj]
    rfl⟩
 obtain⟨s,h1,h2⟩:=this
 rw[List.take_of_length_le (Nat.le_refl _)] at h2
 refine⟨s.1,s.2.1,s.2.2,?_,h2⟩
 unfold I3
 rw[yAi (by omega) hn,vJ6 (by omega) hn]
 simp_all
theorem yPw {k}{l:List zC}(hk:l.length<k)(hl:l.length<9223372036854775808) i:I4 k l i=some (!qE (fun x=> !decide ((l.getD x pd).2.1=i)) l.length 0):=by
 obtain ⟨x, h1, h2⟩ := rW (L := fun c x => EX k c l l.length x i) (N := l.length) (fun x => decide ((l.getD x pd).2.1 = i)) (fun c=>by
   show z9 k _ l l.length l.length i=_
   unfold z9
   simp) (fun c x hx=>by
   show z9 k _ l l.length x i=_
   unfold z9 O6
   simp[qK,qM hx hl,ah hx]) hk
 unfold I4 O7
 grind
theorem yHq {n:Nat}{l:List zC}(hl:∀p∈l,yP n p)(i:Nat):qE (fun x=> !decide ((l.getD x pd).2.1=i)) l.length 0=decide (zL (gN i) l+zL (gR i) l=0):=by
 have hN:=rY (g:=gN i) (l:=l) fun p hp=>(IS (hl p hp) i).1
 have hR:=rY (g:=gR i) (l:=l) fun p hp=>(IL (hl p hp) i).1
 have e:zL (gN i) l+zL (gR i) l=zL (fun p:zC=>if p.2.1=(i:Int) then p.2.2.2.1 else 0) l:=by
  rw[←Z4]
  refine Ih fun p hp=>?_
  unfold gN gR
  omega
 rw[e]
 have h:∀(l:List zC),(∀p∈l,yP n p)→((∀p∈l,¬p.2.1=i)↔zL (fun p:zC=>if p.2.1=(i:Int) then p.2.2.2.1 else 0) l=0):=by
  intro l
  induction l with
  |nil=>intro _;simp[zL]
  |cons q l ih=>
   intro hm
   have ih:=ih (by grind)
   have hq:=hm q (by simp)
   have h0:0≤zL (fun p:zC=>if p.2.1=i then p.2.2.2.1 else 0) l:=rY fun p hp=>by
    have:=(hm p (by grind)).a1
    omega
   unfold zL
   by_cases c:q.2.1=i
   ·rw[if_pos c]
    have:=hq.a1
    grind
   simp_all
 have aV:(∀p∈l,¬p.2.1=i)↔qE (fun x=> !decide ((l.getD x pd).2.1=i)) l.length 0=true:=by
  rw[fS]
  constructor
  ·intro h j hj
   simpa using h _ (jW hj)
  ·intro h p hp
   obtain⟨j,hj,rfl⟩:=List.getElem_of_mem hp
   have:=h j hj
   simpa[List.getD,hj] using this
 simp_all
def Au (n EY:Int):Bool:= !decide (EY= -1)&&decide (n>EY)
theorem yDv k n EY:Av k n EY=some (Au n EY):=by
 unfold Av Au
 grind
theorem yPc k b c r s (h:-9223372036854775808≤r-s)(h':r<9223372036854775808)(hs:0≤s):sg k b c r s=some (wJ r s):=by
 unfold sg wJ vR
 rw[qL h (by omega),an]
 grind
def uJ (b p:EQ)(l:List zC)(i:Nat)(short:Bool)(q:zC):Bool:=
 decide (q.2.1=i)&&((decide (q.2.2.2.2.1=3)&&short)||Au (cell p i q.2.2.1.toNat+dS l i q.2.2.1.toNat) (cell b i q.2.2.1.toNat))
theorem vHp {k a b m p l}(hk:100<k)(hb:wO a b m p)(hl:wE a.length l){r2 r3 m4}(hm:I1 a.length l r2 r3 m4){i}(hi:i<a.length) bal cr res n0 (iB:0≤res∧res≤2305843009213693952):
  I5 k l i bal cr res r2 r3 m4 n0 a b m p=some (!qE (fun x=> !uJ b p l i (decide (n0<wJ res (zL (gR i) l))) (l.getD x pd)) l.length 0):=by
 have kM:=hl.2
 have hR:=zp hl i
 obtain ⟨x, h1, h2⟩ := rW (L := fun c x => EZ k c l l.length x i bal cr res r2 r3 m4 n0 a b m p) (N := l.length) (fun x => uJ b p l i (decide (n0 < wJ res (zL (gR i) l))) (l.getD x pd)) (fun c=>by
   show Aw k _ l l.length l.length i bal cr res r2 r3 m4 n0 a b m p=_
   unfold Aw
   simp) (fun c x hx=>by
   show Aw k _ l l.length x i bal cr res r2 r3 m4 n0 a b m p=_
   have bE:yP a.length (l.getD x pd):=hl.1 _ (by grind)
   unfold Aw
   simp only[qK,qM hx (by grind),qI,aH,ah hx]
   generalize l.getD x (0,(0,(0,(0,(0,(0,0))))))=q at bE⊢
   obtain⟨id,f,t,am,cl,st,ti⟩:=q
   obtain⟨f0,f1,t0,t1,ne,a1,a2,c1,c3⟩:=bE
   dsimp only at f0 f1 t0 t1 ne a1 a2 c1 c3⊢
   obtain⟨t,rfl⟩:∃y:Nat,t=y:=⟨t.toNat,by omega⟩
   have eg:t<a.length:=by omega
   unfold O8 uJ
   cases hf:decide (f=(i:Int)) with
   |false=>simp
   |true=>
    have e1:(r3.getD i 0)=zL (gR i) l:=hm.spent i hi
    have e2:(m4.getD i []).getD t 0=dS l i t:=hm.sent i hi t eg
    have EN:=hb.nums.net i hi t eg
    have hd:=IY hl i t
    have e3:zA ((p.getD i []).getD t 0+dS l i t)=cell p i t+dS l i t:=qL (by show _≤cell p i t+dS l i t;omega) (by show cell p i t+dS l i t<_;omega)
    simp only[qK,hm.l3,hm.l4,hm.r4 i hi,hb.pl,hb.pr i hi,hb.bl,hb.br i hi,ah hi,ah eg,aH,e1,e2,e3,yPc k bal cr res (zL (gR i) l) (by omega) (by omega) hR.1,aj,yDv]
    cases decide (cl=3)<;>cases decide (n0<wJ res (zL (gR i) l))<;>rfl) (n:=k) (by omega)
 unfold I5 O9
 grind
theorem Pb {α g}:∀{l:List α},(∀p∈l,0≤g p)→(0<zL g l↔∃p∈l,0<g p)
 |[],_=>by simp[zL]
 |q::l,h=>by
  have ih:=Pb (g:=g) (l:=l) (by grind)
  have h0:=rY (g:=g) (l:=l) (by grind)
  unfold zL
  grind
theorem I6 {N p}:qE p N 0=false↔∃j,j<N∧p j=false:=by
 constructor
 ·apply Classical.byContradiction
  intro hn
  have:qE p N 0=true:=fS.2 (by grind)
  simp_all
 ·rintro⟨j,hj,hp⟩
  cases h:qE p N 0 with
  |false=>rfl
  |true=>rw[fS.1 h j hj] at hp;cases hp
theorem vBp {a:List qR}{b p l}(hl:wE a.length l){i}(hi:i<a.length) short:
  (!qE (fun x=> !uJ b p l i short (l.getD x pd)) l.length 0)=(!qE (IX b p l i) a.length 0||(decide (zL (gN i) l>0)&&short)):=by
 have hN:=Pb (g:=gN i) (l:=l) fun p hp=>(IS (hl.1 p hp) i).1
 have hS:=fun j=>Pb (g:=gS i j) (l:=l) fun p hp=>(OV (hl.1 p hp) i j).1
 rw[Bool.eq_iff_iff]
 simp only[Bool.not_eq_true',Bool.or_eq_true,bH,bD]
 rw[I6,I6]
 constructor
 ·rintro⟨x,hx,hb⟩
  have bE:=hl.1 _ (jW (d:=pd) hx)
  have bn:=jW (d:=pd) hx
  generalize l.getD x pd=q at hb bE bn
  simp only[uJ,Bool.not_eq_false',bH,Bool.or_eq_true,bD] at hb
  obtain⟨hf,hb⟩:=hb
  rcases hb with⟨hc,hs⟩|ho
  ·refine .inr ⟨hN.2 ⟨q,bn,?_⟩,hs⟩
   unfold gN
   rw[if_pos ⟨hf,hc⟩]
   have:=bE.a1;omega
  ·have h1:=bE.t0;have h2:=bE.t1
   refine .inl ⟨q.2.2.1.toNat,by omega,?_⟩
   unfold IX
   have uK:zL (gS i q.2.2.1.toNat) l>0:=(hS _).2 ⟨q,bn,by
    unfold gS
    rw[if_pos (by grind)]
    have:=bE.a1;omega⟩
   rw[ah uK]
   unfold Au at ho
   simp_all
 ·rintro(⟨j,hj,hb⟩|⟨hp,hs⟩)
  ·simp only[IX,Bool.not_eq_false',bH,bD] at hb
   obtain⟨uK,ho⟩:=hb
   obtain⟨q,hq,hg⟩:=(hS j).1 uK
   obtain⟨x,hx,rfl⟩:=List.getElem_of_mem hq
   refine⟨x,hx,?_⟩
   have e:l.getD x pd=l[x]:=by simp[List.getD,hx]
   rw[e]
   unfold gS at hg
   by_cases c:l[x].2.1=(i:Int)∧l[x].2.2.1=(j:Int)
   ·unfold uJ Au
    simp_all
   ·rw[if_neg c] at hg;omega
  ·obtain⟨q,hq,hg⟩:=hN.1 hp
   obtain⟨x,hx,rfl⟩:=List.getElem_of_mem hq
   refine⟨x,hx,?_⟩
   have e:l.getD x pd=l[x]:=by simp[List.getD,hx]
   rw[e]
   unfold gN at hg
   by_cases c:l[x].2.1=(i:Int)∧l[x].2.2.2.2.1=3
   ·unfold uJ
    simp_all
   ·rw[if_neg c] at hg;omega
theorem vCd {k a b m p l}(hk:100<k)(hb:wO a b m p)(hl:wE a.length l){r2 r3 m4}(hm:I1 a.length l r2 r3 m4){i}(hi:i<a.length)(hs:decide (zL (gN i) l+zL (gR i) l=0)=false):
  I7 k r2 r3 m4 a b m p i l=some (jz a b m p l i):=by
 have h6:=hb.n6
 have kM:=hl.2
 have hB:=OW hl i
 have hx:=hb.acct i hi
 simp only[jZ,bH,bD] at hx
 have E0:-4611686018427387904<(a.getD i ad).1∧(a.getD i ad).1<4611686018427387904∧0≤(a.getD i ad).2.1∧(a.getD i ad).2.1≤2305843009213693952∧0≤(a.getD i ad).2.2∧(a.getD i ad).2.2≤2305843009213693952:=by grind
 have EN:=Ec (yDs hb hi) a.length
 have e1:r2.getD i 0=zL (gB i) l:=hm.more i hi
 unfold I7
 simp only[qK,ah hi,ao,aH,hm.l2,hm.l4,e1,hm.r4 i hi]
 rw[vIi (by omega) (by omega) hi hb.pl (hb.pr i hi) (yDs hb hi)]
 rw[qL (x:=(a.getD i ad).1+(a.getD i ad).2.1) (by omega) (by omega),qL (x:=(a.getD i ad).1+(a.getD i ad).2.1+zL (gB i) l) (by omega) (by omega)]
 unfold jz
 rw[hs]
 cases hn:decide ((a.getD i ad).1+(a.getD i ad).2.1+zL (gB i) l<0) with
 |true=>simp
 |false=>
  obtain ⟨s, q1, q2⟩ := wC (L := fun c j (s : Int) => uL k c l s (m4.getD i []) a.length j r2 r3 m4 a b m p i (a.getD i ad).1 (a.getD i ad).2.1 (a.getD i ad).2.2 ((a.getD i ad).1 + (a.getD i ad).2.1 + zL (gB i) l)) (N := a.length) (fun s => (l, s, r2, r3, m4, a, b, m, p, (i : Int), (a.getD i ad).1, (a.getD i ad).2.1, (a.getD i ad).2.2, (a.getD i ad).1 + (a.getD i ad).2.1 + zL (gB i) l)) (fun j s => s = qG (cell p i) a.length + qG (dS l i) j) (fun c s hs=>by
    show Ax k _ l s (m4.getD i []) a.length a.length r2 r3 m4 a b m p i (a.getD i ad).1 (a.getD i ad).2.1 (a.getD i ad).2.2 ((a.getD i ad).1+(a.getD i ad).2.1+zL (gB i) l)=_
    unfold Ax
    simp) (fun c j s hj hs=>by
    refine⟨qG (cell p i) a.length+qG (dS l i) (j+1),?_,rfl⟩
    show Ax k _ l s (m4.getD i []) a.length j r2 r3 m4 a b m p i (a.getD i ad).1 (a.getD i ad).2.1 (a.getD i ad).2.2 ((a.getD i ad).1+(a.getD i ad).2.1+zL (gB i) l)=_
    have e2:(m4.getD i []).getD j 0=dS l i j:=hm.sent i hi j hj
    have Dc:=Ec (fun j=>IY hl i j) j
    have Ob:=IY hl i j
    unfold Ax
    simp only[qK,qM hj (by grind),qI,aH,hm.r4 i hi,ah hj,ao,e2]
    rw[hs,qL (x:=qG (cell p i) a.length+qG (dS l i) j+dS l i j) (by omega) (by omega),Int.add_assoc]
    rfl) (n:=k) (s:=qG (cell p i) a.length) (by omega) (by show _=_+0;omega)
  have q1':uL k k l (qG (cell p i) a.length) (m4.getD i []) a.length 0 r2 r3 m4 a b m p i (a.getD i ad).1 (a.getD i ad).2.1 (a.getD i ad).2.2 ((a.getD i ad).1+(a.getD i ad).2.1+zL (gB i) l)=_:=q1
  simp only[an,aj]
  rw[show uL k k l (qG (cell p i) a.length) (m4.getD i []) a.length 0 r2 r3 m4 a b m p i (a.getD i (0,(0,0))).1 (a.getD i (0,(0,0))).2.1 (a.getD i (0,(0,0))).2.2 ((a.getD i ad).1+(a.getD i ad).2.1+zL (gB i) l)=_ from q1']
  simp only[aj,qK,hb.ml,ah hi,ao,aH,yDv]
  rw[vHp hk hb hl hm hi _ _ _ _ (by grind),vBp hl hi,q2,vJe hl.1 i hi]
  have en:qG (cell p i) a.length+-zL (gB i) l=qG (cell p i) a.length-zL (gB i) l:=by omega
  rw[en]
  unfold Au
  grind
theorem yVq f i:((List.range (i+1)).filter f).map (fun(x:Nat)=>(x:Int))=(((List.range i).filter f).map fun(x:Nat)=>(x:Int))++(bif f i then[(i:Int)] else[]):=by
 rw[List.range_succ,List.filter_append,List.map_append]
 grind
theorem Pc {k a b m p l}(hk:100<k)(hb:wO a b m p)(hl:wE a.length l):uM k a b m p l=some (uI a b m p l):=by
 have h6:=hb.n6
 have kM:=hl.2
 obtain⟨r2,r3,m4,g1,hm⟩:=vCh hk h6 hl
 obtain ⟨r, h1, h2⟩ := wC (L := fun c i (r : AC) => Ay k c l a.length i a b m p r2 r3 m4 r) (N := a.length) (fun r => r) (fun i r => r = ((List.range i).filter fun i => jz a b m p l i).map fun (x : Nat) => (x : Int)) (fun c r hr=>by
   show Az k _ l a.length a.length a b m p r2 r3 m4 r=_
   unfold Az
   simp) (fun c i r hi hr=>by
   have hle:r.length≤i:=by
    grind
   have aE:zU (r.length+1) 8=true:=qX (by omega) (by omega)
   refine⟨_,?_,rfl⟩
   show Az k _ l a.length i a b m p r2 r3 m4 r=_
   unfold Az
   simp only[qM hi (by grind),yPw (show l.length<k by omega) (by omega)]
   rw[yHq hl.1,yVq,←hr]
   cases hz:decide (zL (gN i) l+zL (gR i) l=0) with
   |true=>
    have:jz a b m p l i=false:=by unfold jz;simp_all
    simp_all
   |false=>
    rw[vCd hk hb hl hm hi hz]
    grind) (n:=k) (s:=[]) (by omega) rfl
 unfold uM
 rw[g1]
 simp
 have fJ:Ay k k l a.length 0 a b m p r2 r3 m4 []=some r:=h1
 rw[fJ,h2]
 rfl
theorem vA3 {a b m p l}:decide (((uI a b m p l).length:Int)=0)=qE (fun i=> !jz a b m p l i) a.length 0:=by
 unfold uI
 cases h:qE (fun i=> !jz a b m p l i) a.length 0 with
 |true=>
  rw[fS] at h
  simp_all
 |false=>
  apply ak
  intro h0
  obtain⟨j,hj,hs⟩:=I6.1 h
  simp_all
theorem yRt {k}{l:List zC}(hk:l.length<k)(hl:l.length<9223372036854775808)(a:List qR) b m p:I8 k l a b m p=some (!lE a.length l):=by
 obtain ⟨x, h1, h2⟩ := rW (L := fun c i => E1 k c l l.length i a b m p) (N := l.length) (fun i => !mB a.length (l.getD i pd)) (fun c=>by
  show AA k _ l l.length l.length a b m p=_
  unfold AA
  simp) (fun c i hi=>by
  show AA k _ l l.length i a b m p=_
  unfold AA Pd
  simp[qK,qM hi hl,ah hi,IJ]) hk
 unfold I8 Pe
 unfold lE
 grind
theorem vAs {k a b m p}{l:List zC}(hk:100<k)(hb:wO a b m p)(hl:l.length≤80):uN k a b m p l=some (zu a b m p l):=by
 unfold uN zu
 have e:decide ((l.length:Int)≤64)=decide (l.length≤64):=by
  grind
 rw[e,yRt (by omega) (by omega)]
 cases cy:decide (l.length≤64) with
 |false=>simp
 |true=>
  cases hm:lE a.length l with
  |false=>rfl
  |true=>
   have hr:wE a.length l:=⟨zn.1 hm,by grind⟩
   simp only[ao,aj,aQ,dJ,Pc hk hb hr,vA3,Bool.true_and]
def qQ (l:List zC):Prop:=List.Pairwise (fun p q=>p.1≠q.1) l
theorem qQ.filter {l:List zC}(h:qQ l)(f:zC→Bool):qQ (l.filter f):=List.Pairwise.filter f h
theorem E2 {α:Type}(f:α→Bool)(l:List α)(i:Nat)(d:α)(h:i<l.length):(l.take (i+1)).filter f=(l.take i).filter f++(bif f (l.getD i d) then[l.getD i d] else[]):=by
 rw[←dK l i d h,List.filter_append]
 congr 1
theorem yHs {α X:Type}(d:α){l:List α}{L:Nat→Int→List α→Option X}(f:α→Bool)(e:List α→X)(bq:∀n s,L (n+1) (l.length:Int) s=some (e s))
  (aC:∀n i s,i<l.length→s.length≤i→L (n+1) (i:Int) s=L n ((i+1:Nat):Int) (bif f (l.getD i d) then s++[l.getD i d] else s)) {n:Nat} (hn:l.length<n):
  L n 0 []=some (e (l.filter f)):=by
 obtain ⟨s', h1, h2⟩ := wC (L := L) (N := l.length) e (fun i s => s = (l.take i).filter f) (fun n s _ => bq n s) (fun n i s hi hs=>by
  refine⟨_,aC n i s hi ?_,?_⟩
  ·subst hs
   have:=List.length_filter_le f (l.take i)
   rw[List.length_take] at this
   omega
  ·subst hs
   rw[E2 f l i d hi]
   cases f (l.getD i d)<;>simp) (s:=[]) hn (by simp)
 rw[h1,h2,List.take_length]
def yZ (l:List zC):Prop:=l.length≤1000
theorem sj {n:Nat}(h:n≤1000):zU (n+1) 56=true:=qX (by omega) (by omega)
def mD (t:Int)(p:zC):Bool:=bif decide (t≥p.2.2.2.2.2.1) then decide (t≤p.2.2.2.2.2.2) else false
theorem Pf {k:Nat}{l:List zC}(hk:l.length<k)(hl:yZ l)(t:Int):AB k l t=some (l.filter (mD t)):=by
 unfold AB Pg
 have := yHs pd (L := fun n i s => E3 k n l l.length i t s) (mD t) id (fun n s=>by
  show AE k _ l l.length l.length t s=_
  unfold AE
  simp only [qI, ak (Nat.lt_irrefl _), an]; rfl) (fun n i s hi hs=>by
  show AE k _ l l.length i t s=_
  unfold AE Ph Pj
  unfold yZ at hl
  simp only[qK,qM hi (show l.length<9223372036854775808 by omega),qI,aH,ah hi,ao,sj (show s.length≤1000 by omega)]
  unfold mD
  cases h1:decide (t≥(l.getD i pd).2.2.2.2.2.1) with
  |false=>rfl
  |true=>
   cases h2:decide (t≤(l.getD i pd).2.2.2.2.2.2)<;>rfl) hk
 rw[this]
 rfl
def jD (f:Int)(p:zC):Bool:=decide (p.2.1=f)
def Pk (r:List zC)(p:zC):Bool:=qE (fun x=>decide (((r.filter (jD p.2.1)).getD x pd).2.2.2.2.1=3)) (r.filter (jD p.2.1)).length 0
def Pl (r:List zC)(p:zC):Bool:=decide ((r.filter (jD p.2.1)).getD 0 pd=p)
def sk (r:List zC)(p:zC):Bool:=Pl r p||Pk r p
def wM (l:List zC)(t:Int):List zC:=(l.filter (mD t)).filter (sk (l.filter (mD t)))
theorem eq7 (p q:zC):((decide (p.1=q.1))&&((decide (p.2.1=q.2.1))&&((decide (p.2.2.1=q.2.2.1))&&((decide (p.2.2.2.1=q.2.2.2.1))&&((decide (p.2.2.2.2.1=q.2.2.2.2.1))&&((decide (p.2.2.2.2.2.1=q.2.2.2.2.2.1))&&(decide (p.2.2.2.2.2.2=q.2.2.2.2.2.2))))))))=decide (p=q):=by
 obtain⟨a,b,c,d,e,f,g⟩:=p
 obtain⟨a',b',c',d',e',f',g'⟩:=q
 simp only[Prod.mk.injEq]
 rw[Bool.eq_iff_iff]
 simp only[bH,bD]
def uO (f:Int)(q:zC):Bool:=decide (q.2.1=f)&& !decide (q.2.2.2.2.1=3)
theorem ySr {k:Nat}{l:List zC}(hk:l.length<k)(hl:l.length<9223372036854775808)(i f t a c s e:Int):
  I9 k l i f t a c s e=some (!qE (fun x=> !uO f (l.getD x pd)) l.length 0):=by
 obtain ⟨x, h1, h2⟩ := rW (L := fun n i' => AF k n l l.length i' i f t a c s e) (N := l.length) (fun x => uO f (l.getD x pd)) (fun n=>by
  show AG k _ l l.length l.length i f t a c s e=_
  unfold AG
  simp only [qI, ak (Nat.lt_irrefl _), an]) (fun n j hj=>by
  show AG k _ l l.length j i f t a c s e=_
  unfold AG Pm
  simp only[qK,qM hj hl,qI,aH,ah hj,ao]
  unfold uO
  cases h1:decide ((l.getD j pd).2.1=f) with
  |false=>rfl
  |true=>cases h2:decide ((l.getD j pd).2.2.2.2.1=3)<;>rfl) hk
 unfold I9 Pn
 have fJ:AF k k l l.length 0 i f t a c s e=some x:=h1
 rw[fJ]
 rw[←h2]
 cases x<;>rfl
theorem yXz (r:List zC)(p:zC):Pk r p=true↔∀q∈r,q.2.1=p.2.1→q.2.2.2.2.1=3:=by
 unfold Pk
 rw[fS]
 constructor
 ·intro h q hq he
  have hm:q∈r.filter (jD p.2.1):=List.mem_filter.2 ⟨hq,by simp[jD,he]⟩
  obtain⟨i,hi,e⟩:=List.getElem_of_mem hm
  have:=h i hi
  rw[List.getD_eq_getElem?_getD,List.getElem?_eq_getElem hi,e] at this
  simpa using this
 ·intro h j hj
  have hm:=jW (d:=pd) hj
  rw[List.mem_filter] at hm
  have:=h _ hm.1 (by simpa[jD] using hm.2)
  simpa using this
theorem yZ8 (r:List zC)(f:Int):qE (fun x=> !uO f (r.getD x pd)) r.length 0=true↔∀q∈r,q.2.1=f→q.2.2.2.2.1=3:=by
 rw[fS]
 constructor
 ·intro h q hq he
  obtain⟨i,hi,e⟩:=List.getElem_of_mem hq
  have:=h i hi
  rw[List.getD_eq_getElem?_getD,List.getElem?_eq_getElem hi,e] at this
  simpa[uO,he] using this
 ·intro h j hj
  have:=h _ (jW (d:=pd) hj)
  simp only[uO,Bool.not_eq_true',Bool.and_eq_false_iff,Bool.not_eq_false',bD,decide_eq_false_iff_not]
  by_cases c:(r.getD j pd).2.1=f
  ·exact .inr (this c)
  ·exact .inl c
theorem qQ.split {r:List zC}(h:qQ r){i:Nat}(hi:i<r.length):∀q∈r.take i,q.1≠(r.getD i pd).1:=by
 intro q hq
 have e:r.take (i+1)=r.take i++[r.getD i pd]:=(dK r i pd hi).symm
 have hs:qQ (r.take (i+1)):=List.Pairwise.sublist (List.take_sublist _ _) h
 rw[e] at hs
 exact(List.pairwise_append.1 hs).2.2 q hq _ (List.mem_singleton.2 rfl)
theorem E4 {α:Type}(r:List α)(i:Nat)(d:α)(hi:i<r.length):r=r.take i++r.getD i d::r.drop (i+1):=by
 conv=>lhs;rw[←List.take_append_drop i r]
 congr 1
 rw[List.drop_eq_getElem_cons hi]
 congr 1
 rw[List.getD_eq_getElem?_getD,List.getElem?_eq_getElem hi];rfl
theorem vH0 {r:List zC}(h:qQ r){i:Nat}(hi:i<r.length):Pl r (r.getD i pd)= !(r.take i).any (jD (r.getD i pd).2.1):=by
 unfold Pl
 have e:∀f,jD f (r.getD i pd)=true→r.filter (jD f)=(r.take i).filter (jD f)++r.getD i pd::(r.drop (i+1)).filter (jD f):=by
  intro f hf
  have:=congrArg (List.filter (jD f)) (E4 r i pd hi)
  rwa [List.filter_append,List.filter_cons_of_pos hf] at this
 have e:=e (r.getD i pd).2.1 (by simp[jD])
 rw[e]
 cases ha:(r.take i).any (jD (r.getD i pd).2.1) with
 |false=>
  have:(r.take i).filter (jD (r.getD i pd).2.1)=[]:=by
   rw[List.filter_eq_nil_iff]
   intro q hq hf
   rw[List.any_eq_false] at ha
   exact ha q hq hf
  rw[this]
  simp
 |true=>
  cases hf:(r.take i).filter (jD (r.getD i pd).2.1) with
  |nil=>
   rw[List.filter_eq_nil_iff] at hf
   rw[List.any_eq_true] at ha
   obtain⟨q,h1,h2⟩:=ha
   exact absurd h2 (hf q h1)
  |cons q l=>
   have hq:q∈r.take i:=(List.mem_filter.1 (hf▸List.mem_cons_self ..:q∈(r.take i).filter _)).1
   have:=h.split hi q hq
   have e2:(q::l++r.getD i pd::(r.drop (i+1)).filter (jD (r.getD i pd).2.1)).getD 0 pd=q:=rfl
   rw[e2]
   simp only[aQ,decide_eq_false_iff_not]
   intro c
   exact this (by rw[c])
theorem yR5 {r:List zC}(h:qQ r){i:Nat}(hi:i<r.length):
  sk r (r.getD i pd)=(!(r.take i).any (jD (r.getD i pd).2.1)||(decide ((r.getD i pd).2.2.2.2.1=3)&&qE (fun x=> !uO (r.getD i pd).2.1 (r.getD x pd)) r.length 0)):=by
 unfold sk
 rw[vH0 h hi]
 congr 1
 rw[Bool.eq_iff_iff,yXz,bH,yZ8,bD]
 exact⟨fun g=>⟨g _ (jW hi) rfl,g⟩,fun g=>g.2⟩
theorem lookup_cons (f g:Int)(l:List (Int×Bool)):(List.lookup f ((g,true)::l)).getD false=(decide (f=g)||(List.lookup f l).getD false):=by
 rw[List.lookup_cons]
 by_cases c:f=g
 ·subst c;simp
 ·have:(f==g)=false:=by simpa using c
  rw[this]
  simp[c]
theorem qQ6 {k:Nat}{l:List zC}(hk:l.length<k)(hl:yZ l)(hd:qQ l)(t:Int):E5 k l t=some (wM l t):=by
 unfold E5
 rw[Pf hk hl]
 simp only[aj]
 unfold wM
 have fm:(l.filter (mD t)).length≤l.length:=List.length_filter_le _ _
 have rA:=hd.filter (mD t)
 generalize l.filter (mD t)=r at fm rA
 unfold yZ at hl
 unfold Po
 obtain ⟨s', h1, h2, h3⟩ := wC (L := fun n i (s : List (Int × Bool) × List zC) => AH k n r r.length i s.1 r s.2) (N := r.length) (fun s => (s.1, r, s.2)) (fun i s => (∀ f, (List.lookup f s.1).getD false = (r.take i).any (jD f)) ∧ s.2 = (r.take i).filter (sk r)) (fun n s _=>by
  show AI k _ r r.length r.length s.1 r s.2=_
  unfold AI
  simp only [qI, ak (Nat.lt_irrefl _), an]) (fun n i s hi hs=>by
  refine⟨(((r.getD i pd).2.1,true)::s.1,bif sk r (r.getD i pd) then s.2++[r.getD i pd] else s.2),?_,?_,?_⟩
  ·show AI k _ r r.length i s.1 r s.2=_
   unfold AI Pp
   have hlen:s.2.length≤i:=by
    rw[hs.2]
    have:=List.length_filter_le (sk r) (r.take i)
    rw[List.length_take] at this
    omega
   have hc:=ySr (k:=k) (l:=r) (by omega) (by omega) (r.getD i pd).1 (r.getD i pd).2.1 (r.getD i pd).2.2.1 (r.getD i pd).2.2.2.1 (r.getD i pd).2.2.2.2.1 (r.getD i pd).2.2.2.2.2.1 (r.getD i pd).2.2.2.2.2.2
   have pw:=hs.1 (r.getD i pd).2.1
   have hp:=yR5 rA hi
   simp only[pd] at hc pw hp⊢
   simp only[qK,qM hi (show r.length<9223372036854775808 by omega),qI,aH,ah hi,ao,sj (show s.2.length≤1000 by omega)]
   rw[hc,pw,hp]
   generalize (r.take i).any _=x
   generalize qE _ _ 0=y
   generalize decide ((r.getD i (0,(0,(0,(0,(0,(0,0))))))).2.2.2.2.1=3)=z
   cases x<;>cases y<;>cases z<;>rfl
  ·intro f
   rw[lookup_cons,hs.1 f,←dK r i pd hi,List.any_append,Bool.or_comm]
   congr 1
   simp only[List.any_cons,List.any_nil,Bool.or_false,jD]
   rw[Bool.eq_iff_iff]
   simp only[bD]
   exact eq_comm
  ·show(bif sk r (r.getD i pd) then s.2++[r.getD i pd] else s.2)=_
   rw[hs.2,E2 _ _ _ pd hi]
   cases sk r (r.getD i pd)<;>simp) (s:=([],[])) (show r.length<k by omega) ⟨fun f=>by simp,by simp⟩
 have fJ:AH k k r r.length 0 [] r []=some (s'.1,r,s'.2):=h1
 rw[fJ,h3,List.take_length]
 rfl
def sm (p:Nat→Bool):Nat→Nat→Option Nat
 |0,_=>none
 |c+1,i=>bif p i then some i else sm p c (i+1)
def qVu:Option Nat→Unit⊕Int
 |some x=>.inr (x:Int)
 |none=>.inl ()
theorem yFf {L:Nat→Int→Option (Unit⊕Int)}{N:Nat} bad (bq:∀n,L (n+1) (N:Int)=some (.inl ()))
  (aC:∀n i,i<N→L (n+1) (i:Int)=bif bad i then some (.inr (i:Int)) else L n ((i+1:Nat):Int)):
  ∀c i n,i+c=N→c<n→L n (i:Int)=some (qVu (sm bad c i))
 |0,i,n,h,hn=>by
  obtain⟨n,rfl⟩:∃m,n=m+1:=⟨n-1,by omega⟩
  have:i=N:=by omega
  subst this
  exact bq n
 |c+1,i,n,h,hn=>by
  obtain⟨n,rfl⟩:∃m,n=m+1:=⟨n-1,by omega⟩
  rw[aC n i (by omega)]
  unfold sm
  cases hb:bad i with
  |true=>rfl
  |false=>
   exact yFf bad bq aC c (i+1) n (by omega) (by omega)
theorem qZ4 {p}:∀{c i x},sm p c i=some x→i≤x∧x<i+c∧p x=true∧∀j,i≤j→j<x→p j=false
 |c+1,i,x,h=>by
  unfold sm at h
  cases hp:p i with
  |true=>
   grind
  |false=>
   rw[hp] at h
   obtain⟨h1,h2,h3,h4⟩:=qZ4 h
   grind
theorem yLo {p}:∀{c i},sm p c i=none→∀j,i≤j→j<i+c→p j=false
 |0,_,_=>by grind
 |c+1,i,h=>by
  unfold sm at h
  cases hp:p i with
  |true=>
   simp_all
  |false=>
   rw[hp] at h
   intro j j1 j2
   by_cases e:j=i
   ·simp_all
   ·exact yLo h j (by omega) (by omega)
def wW (l:List zC)(id:Int):Option Nat:=sm (fun x=>decide ((l.getD x pd).1=id)) l.length 0
def pI (l:List zC)(id:Int):Int:=match wW l id with|some x=>(x:Int)|none=>-1
theorem lF {l id x}(h:wW l id=some x):x<l.length∧(l.getD x pd).1=id:=by
 obtain⟨_,h2,h3,_⟩:=qZ4 h
 simp_all
theorem yQt {l id}(h:wW l id=none):∀p∈l,p.1≠id:=by
 intro p hp e
 obtain⟨i,hi,e'⟩:=List.getElem_of_mem hp
 have:=yLo h i (by omega) (by omega)
 simp_all
theorem Ja {l p}(h:p∈l):∃x,wW l p.1=some x:=by
 cases e:wW l p.1 with
 |some x=>simp
 |none=>exact absurd rfl (yQt e p h)
theorem AJ {k}{l:List zC}(hk:l.length<k)(hl:l.length<9223372036854775808) id:lG k l id=some (pI l id):=by
 have := yFf (L := fun n i => AK k n l l.length i id) (N := l.length) (fun x => decide ((l.getD x pd).1 = id)) (fun n=>by
  show AL k _ l l.length l.length id=_
  unfold AL
  simp) (fun n j hj=>by
  show AL k _ l l.length j id=_
  unfold AL Pq
  simp only[qK,qM hj hl,qI,ah hj]
  rfl) l.length 0 k (by omega) hk
 have h1:AK k k l l.length 0 id=some (qVu (wW l id)):=this
 unfold lG Pr pI
 rw[h1]
 cases wW l id<;>rfl
def vE (l:List zC)(x:Nat):List zC:=l.take x++l.drop (x+1)
theorem nR {l x}(h:x<l.length):(vE l x).length=l.length-1:=by
 unfold vE
 grind
theorem pJ l x:List.Sublist (vE l x) l:=by
 unfold vE
 conv=>rhs;rw[←List.take_append_drop x l]
 grind
theorem qQ.cut {l}(h:qQ l) x:qQ (vE l x):=List.Pairwise.sublist (pJ l x) h
theorem yK3 k {l}{x:Nat}(hx:x<l.length)(hl:yZ l):E6 k l x ((x+1:Nat):Int)=some (vE l x):=by
 unfold E6
 have c1:(decide ((0:Int)≤(x:Int)))=true:=by simp
 have c2:decide ((x:Int)≤((x+1:Nat):Int))=true:=ah (by omega)
 have c3:decide (((x+1:Nat):Int)≤(l.length:Int))=true:=ah (by omega)
 have c4:decide ((l.length:Int)≤(l.length:Int))=true:=by simp
 have c5:decide ((x:Int)=((x+1:Nat):Int))=false:=ak (by omega)
 have c6:decide ((x:Int)≤(l.length:Int))=true:=ah (by omega)
 have c7:decide ((0:Int)≤((x+1:Nat):Int))=true:=ah (by omega)
 have c8:Nat.ble (x-0) (0+(x+1))=true:=by simp
 simp only[aH,c1,c2,c3,c4,c5,c6,c7,c8,an]
 have e0:x-0+(l.length-(x+1))=l.length-1:=by omega
 have e1:List.take (x-0) l++qS l (0+(x+1)) (l.length-(x+1))=vE l x:=by
  unfold qS vE
  rw[Nat.sub_zero,Nat.zero_add]
  congr 1
  rw[List.take_of_length_le]
  rw[List.length_drop]
  exact Nat.le_refl _
 have e2:(qS (vE l x++List.drop (l.length-1) l) 0 (l.length-1))=vE l x:=by
  unfold qS
  rw[List.drop_zero,List.take_append_of_le_length (by rw[nR hx];exact Nat.le_refl _),List.take_of_length_le (by rw[nR hx];exact Nat.le_refl _)]
 have e3:(vE l x++List.drop (l.length-1) l).length=l.length:=by
  rw[List.length_append,List.length_drop,nR hx];omega
 have c9:decide ((0:Int)≤((vE l x).length:Int))=true:=by simp
 have c10:decide (((vE l x).length:Int)≤(l.length:Int))=true:=by grind
 have c11:decide ((l.length:Int)≤((l.length-0:Nat):Int))=true:=by simp
 have e4:List.take (0+(vE l x).length) (vE l x++List.drop (l.length-1) l)=vE l x:=by
  rw[Nat.zero_add,List.take_append_of_le_length (Nat.le_refl _),List.take_of_length_le (Nat.le_refl _)]
 simp only[e0,e1,e2,e3,c9,c10,c11,e4,Bool.and_true,ao]
 rw[List.append_assoc,List.take_append_of_le_length (by rw[nR hx];exact Nat.le_refl _),List.take_of_length_le (by rw[nR hx];exact Nat.le_refl _)]
def mE (l:List zC)(id:Int):List zC×Int×Int×Int×Int×Int×Int×Int×Int:=match wW l id with
 |some x=>(vE l x,(l.getD x pd).1,(l.getD x pd).2.1,(l.getD x pd).2.2.1,(l.getD x pd).2.2.2.1,(l.getD x pd).2.2.2.2.1,(l.getD x pd).2.2.2.2.2.1,(l.getD x pd).2.2.2.2.2.2,0)
 |none=>(l,0,0,0,0,0,0,0,4)
theorem uP {k l}(hk:l.length<k)(hl:yZ l) id:mF k l id=some (mE l id):=by
 unfold yZ at hl
 unfold mF
 rw[AJ hk (by omega)]
 unfold pI mE
 cases hp:wW l id with
 |none=>rfl
 |some x=>
  have hx:=(lF hp).1
  have e1:decide ((x:Int)<0)=false:=by simp
  have e2:sn k l=some l:=by
   unfold sn
   rw[qX (by omega) (by omega)]
   rfl
  simp only[aj,e1,an,e2,qM hx (by grind),yK3 k hx hl,qK,ah hx,ao,aH]
def eh (q p:zC):Bool:=decide (q.2.1<p.2.1)||(decide (q.2.1=p.2.1)&&decide (q.2.2.2.2.1≤p.2.2.2.2.1))
def kN (q p:zC):Bool:=decide (q.2.1<p.2.1)||(decide (q.2.1=p.2.1)&&decide (q.2.2.2.2.1<p.2.2.2.2.1))
theorem vD8 (n:Nat)(x y:Int):Jb (n+3) [x,y]=some (if x=0 then y else x):=by
 have key:∀n:Nat,AM (n+3) (n+3) 0 [x,y] 2 0=bif !decide (x=0) then some (.inr x) else bif !decide (y=0) then some (.inr y) else some (.inl 0):=fun n=>rfl
 unfold Jb
 show(AM (n+3) (n+3) 0 [x,y] 2 0).bind _=_
 rw[key]
 by_cases h:x=0
 ·rw[ah h,if_pos h]
  by_cases h2:y=0
  ·rw[ah h2,h2];rfl
  ·rw[ak h2];rfl
 ·rw[ak h,if_neg h];rfl
theorem yX1 (k:Nat)(a b:Int):E7 k a b=some (if a<b then-1 else if a>b then 1 else 0):=by
 unfold E7 Jc
 have e:∀x:Int,decide (x=x)=true:=fun x=>ah rfl
 simp only[e,aQ,aj,an]
 by_cases h:a<b
 ·rw[ah h,if_pos h];rfl
 ·rw[ak h,if_neg h]
  by_cases h2:a>b
  ·rw[ah h2,if_pos h2];rfl
  ·rw[ak h2,if_neg h2];rfl
theorem Ps {k:Nat}(hk:3≤k)(q p:zC):∃x,AN k q.1 q.2.1 q.2.2.1 q.2.2.2.1 q.2.2.2.2.1 q.2.2.2.2.2.1 q.2.2.2.2.2.2 p.1 p.2.1 p.2.2.1 p.2.2.2.1 p.2.2.2.2.1 p.2.2.2.2.2.1 p.2.2.2.2.2.2=some x∧decide (x≤0)=eh q p∧decide (x<0)=kN q p:=by
 obtain⟨n,rfl⟩:∃n,k=n+3:=⟨k-3,by omega⟩
 unfold AN
 simp only[yX1,aj,vD8]
 refine⟨_,rfl,?_,?_⟩
 ·unfold eh
  rcases Int.lt_trichotomy q.2.1 p.2.1 with h|h|h
  ·simp[h]
  ·rcases Int.lt_trichotomy q.2.2.2.2.1 p.2.2.2.2.1 with g|g|g
   ·simp[h,g,Int.le_of_lt g]
   ·simp[h,g]
   ·have g1:¬q.2.2.2.2.1<p.2.2.2.2.1:=by omega
    have g2:¬q.2.2.2.2.1≤p.2.2.2.2.1:=by omega
    simp[h,g1,g2,g]
  ·have h1:¬q.2.1<p.2.1:=by omega
   have h2:¬q.2.1=p.2.1:=by omega
   simp[h1,h2,h]
 ·unfold kN
  rcases Int.lt_trichotomy q.2.1 p.2.1 with h|h|h
  ·simp[h]
  ·rcases Int.lt_trichotomy q.2.2.2.2.1 p.2.2.2.2.1 with g|g|g
   ·simp[h,g]
   ·simp[h,g]
   ·have g1:¬q.2.2.2.2.1<p.2.2.2.2.1:=by omega
    simp[h,g1,g]
  ·have h1:¬q.2.1<p.2.1:=by omega
   have h2:¬q.2.1=p.2.1:=by omega
   simp[h1,h2,h]
def E8 (ok:Nat→Bool):Nat→Nat→Nat
 |0,i=>i
 |c+1,i=>bif ok i then E8 ok c (i+1) else i
theorem Pt {X:Type}{L:Nat→Int→Option X}{N:Nat}(ok:Nat→Bool)(e:Nat→X)(bq:∀n,L (n+1) (N:Int)=some (e N))
  (aC:∀n i,i<N→L (n+1) (i:Int)=bif ok i then L n ((i+1:Nat):Int) else some (e i)):∀c i n,i+c=N→c<n→L n (i:Int)=some (e (E8 ok c i))
 |0,i,n,h,hn=>by
  obtain⟨n,rfl⟩:∃m,n=m+1:=⟨n-1,by omega⟩
  have:i=N:=by omega
  subst this
  exact bq n
 |c+1,i,n,h,hn=>by
  obtain⟨n,rfl⟩:∃m,n=m+1:=⟨n-1,by omega⟩
  rw[aC n i (by omega)]
  unfold E8
  cases ok i with
  |false=>rfl
  |true=>exact Pt ok e bq aC c (i+1) n (by omega) (by omega)
theorem Pu {α:Type}(f:α→Bool)(l:List α)(d:α):∀c i,i+c=l.length→E8 (fun x=>f (l.getD x d)) c i=i+((l.drop i).takeWhile f).length
 |0,i,h=>by
  rw[List.drop_eq_nil_of_le (by omega)]
  rfl
 |c+1,i,h=>by
  rw[List.drop_eq_getElem_cons (show i<l.length by omega)]
  unfold E8
  have e:l.getD i d=l[i]:=by rw[List.getD_eq_getElem?_getD,List.getElem?_eq_getElem (by omega)];rfl
  rw[e]
  cases hf:f l[i] with
  |false=>rw[List.takeWhile_cons_of_neg (by simp[hf])];rfl
  |true=>
   rw[List.takeWhile_cons_of_pos hf,ao,Pu f l d c (i+1) (by omega),List.length_cons]
   omega
theorem Jd {α:Type}(f:α→Bool)(l:List α):l.take (l.takeWhile f).length=l.takeWhile f∧l.drop (l.takeWhile f).length=l.dropWhile f:=by
 have e:=List.takeWhile_append_dropWhile (p:=f) (l:=l)
 have h1:(l.takeWhile f++l.dropWhile f).take (l.takeWhile f).length=l.takeWhile f:=List.take_left
 have h2:(l.takeWhile f++l.dropWhile f).drop (l.takeWhile f).length=l.dropWhile f:=List.drop_left
 rw[e] at h1 h2
 exact⟨h1,h2⟩
theorem qYl {α:Type}(f:α→Bool)(l:List α):(l.takeWhile f).length≤l.length:=(List.takeWhile_sublist f).length_le
theorem Pv {α:Type}{b:Nat}(f:α→Bool)(l:List α)(p:α)(hl:l.length≤1000)(hb:b≤1000):ins b l (((l.takeWhile f).length:Nat):Int) [p]=some (l.takeWhile f++(p::l.dropWhile f)):=by
 unfold ins
 have h:=qYl f l
 have hm:(l.length+1)*b≤1001*1000:=Nat.mul_le_mul (by omega) hb
 rw[ah (show(0:Int)≤((l.takeWhile f).length:Int) by omega),ah (show((l.takeWhile f).length:Int)≤(l.length:Int) by omega),qX (show(l.length+1)*b≤140737488355328 by omega) (by omega),aH,(Jd f l).1,(Jd f l).2]
 rfl
def pK (l:List zC)(p:zC):List zC:=l.takeWhile (fun q=>eh q p)++(p::l.dropWhile (fun q=>eh q p))
def Je (l:List zC)(p:zC):List zC:=l.takeWhile (fun q=>kN q p)++(p::l.dropWhile (fun q=>kN q p))
theorem yCf {k:Nat}{l:List zC}(hl:yZ l):sn k l=some l:=by
 unfold yZ at hl
 unfold sn
 rw[qX (by omega) (by omega)]
 rfl
theorem vE1 {k:Nat}(hk:3≤k)(l:List zC)(hl:yZ l)(cp:l.length<k)(p:zC):AO k k l 0 p=some (l,(((l.takeWhile (fun q=>eh q p)).length:Nat):Int),p):=by
 unfold yZ at hl
 have := Pt (L := fun n i => AO k n l i p) (N := l.length) (fun x => eh (l.getD x pd) p) (fun i => (l, (i : Int), p)) (fun n=>by
  show AP k _ l l.length p=_
  unfold AP
  simp only [qI, ak (Nat.lt_irrefl _), an]) (fun n i hi=>by
  show AP k _ l i p=_
  unfold AP
  obtain⟨x,h1,h2,_⟩:=Ps hk (l.getD i pd) p
  simp only[pd] at h1
  simp only[qK,qI,aH,ah hi,ao,h1,aj,h2,qM hi (show l.length<9223372036854775808 by omega)]
  cases eh (l.getD i pd) p<;>rfl) l.length 0 k (by omega) cp
 have e:((0:Nat):Int)=0:=rfl
 rw[e] at this
 show AO k k l 0 p=_
 rw[this,Pu (fun q=>eh q p) l pd l.length 0 (by omega),List.drop_zero,Nat.zero_add]
theorem Pw {k:Nat}{l:List zC}(hk:3≤k)(cp:l.length<k)(hl:yZ l)(p:zC):
  so k l p=some (bif (wW l p.1).isSome then(l,6) else bif decide (40≤l.length) then(l,3) else(pK l p,0)):=by
 have fm:=hl
 unfold yZ at hl
 unfold so
 rw[AJ cp (by omega)]
 unfold pI
 cases hp:wW l p.1 with
 |some x=>
  have e1:decide ((x:Int)≥0)=true:=ah (by omega)
  simp only[aj,e1,ao,Option.isSome_some]
 |none=>
  have e1:decide ((-1:Int)≥0)=false:=rfl
  simp only[aj,e1,an,Option.isSome_none]
  by_cases h:40≤l.length
  ·rw[ah h,ah (show(l.length:Int)≥40 by omega)];rfl
  ·rw[ak h,ak (show¬(l.length:Int)≥40 by omega)]
   simp only[an,vE1 hk l fm cp,aj,yCf fm,Jf]
   rw[Pv _ l p hl (by decide)]
   rfl
theorem Px {l:List zC}{x:Nat}(h:yZ l):yZ (vE l x):=by
 unfold yZ at*
 have:=(pJ l x).length_le
 omega
def E9 (l:List zC)(id:Int):List zC:=match wW l id with|some x=>vE l x|none=>l
theorem yA1 {l:List zC}{id:Int}(hd:qQ l):wW (E9 l id) id=none:=by
 cases h:wW (E9 l id) id with
 |none=>rfl
 |some y=>
  exfalso
  obtain⟨h1,h2⟩:=lF h
  unfold E9 at h h1 h2
  cases hp:wW l id with
  |none=>
   rw[hp] at h
   rw[hp] at h;cases h
  |some x=>
   rw[hp] at h1 h2
   obtain⟨h3,h4⟩:=lF hp
   have hm:=jW (d:=pd) h1
   have e:=E4 l x pd h3
   unfold qQ at hd
   rw[e] at hd
   have Fa:=List.pairwise_append.1 hd
   have Py:=List.pairwise_cons.1 Fa.2.1
   simp only at h1 h2 hm
   unfold vE at hm
   rcases List.mem_append.1 hm with hm|hm
   ·exact Fa.2.2 _ hm _ (List.mem_cons_self ..) (h2.trans h4.symm)
   ·exact Py.1 _ hm (h4.trans h2.symm)
theorem yUc {k:Nat}{l:List zC}(hk:3≤k)(cp:l.length<k)(hl:yZ l)(hd:qQ l)(h40:l.length≤40){id:Int}{x:Nat}(hx:wW l id=some x)(c:Int):
  AQ k l id c=some (pK (vE l x) ((l.getD x pd).1,(l.getD x pd).2.1,(l.getD x pd).2.2.1,(l.getD x pd).2.2.2.1,c,(l.getD x pd).2.2.2.2.2.1,(l.getD x pd).2.2.2.2.2.2),0):=by
 have eO:=lF hx
 have hw:=yA1 (id:=id) hd
 unfold E9 at hw
 rw[hx] at hw
 have hlen:=nR eO.1
 unfold AQ
 rw[uP cp hl]
 unfold mE
 rw[hx]
 simp only[aj,decide_true,aQ,an]
 rw[Pw hk (by omega) (Px hl)]
 simp only[eO.2,hw,Option.isSome_none,an,ak (show¬40≤(vE l x).length by omega),aj]
theorem vEs {k:Nat}{l:List zC}(hk:3≤k)(cp:l.length<k)(hl:yZ l)(hd:qQ l)(h40:l.length≤40){id:Int}{x:Nat}(hx:wW l id=some x):
  AR k l id=some (pK (vE l x) (l.getD x pd),0):=by
 have eO:=lF hx
 have hw:=yA1 (id:=id) hd
 unfold E9 at hw
 rw[hx] at hw
 have hlen:=nR eO.1
 unfold AR
 rw[uP cp hl]
 unfold mE
 rw[hx]
 simp only[aj,decide_true,aQ,an]
 rw[Pw hk (by omega) (Px hl)]
 simp only[eO.2,hw,Option.isSome_none,an,ak (show¬40≤(vE l x).length by omega),aj]
 simp only[Fc]
 rw[←eO.2]
theorem yWy {k:Nat}(hk:3≤k)(l:List zC)(hl:yZ l)(cp:l.length<k)(p:zC):AT k k 0 l p=some ((((l.takeWhile (fun q=>kN q p)).length:Nat):Int),l,p):=by
 unfold yZ at hl
 have := Pt (L := fun n i => AT k n i l p) (N := l.length) (fun x => kN (l.getD x pd) p) (fun i => ((i : Int), l, p)) (fun n=>by
  show AU k _ l.length l p=_
  unfold AU
  simp only [qI, ak (Nat.lt_irrefl _), an]) (fun n i hi=>by
  show AU k _ i l p=_
  unfold AU
  obtain⟨x,h1,_,h2⟩:=Ps hk (l.getD i pd) p
  simp only[pd] at h1
  simp only[qK,qI,aH,ah hi,ao,h1,aj,h2,qM hi (show l.length<9223372036854775808 by omega)]
  cases kN (l.getD i pd) p<;>rfl) l.length 0 k (by omega) cp
 have e:((0:Nat):Int)=0:=rfl
 rw[e] at this
 show AT k k 0 l p=_
 rw[this,Pu (fun q=>kN q p) l pd l.length 0 (by omega),List.drop_zero,Nat.zero_add]
theorem yP4 {k:Nat}{l:List zC}(hk:3≤k)(cp:l.length<k)(hl:yZ l){id:Int}{x:Nat}(hx:wW l id=some x):
  AV k l id=some (Je (vE l x) (l.getD x pd),0):=by
 have fm:=hl
 unfold yZ at hl
 have eO:=lF hx
 have hlen:=nR eO.1
 have e1:decide ((x:Int)<0)=false:=ak (by omega)
 unfold AV Pz
 rw[AJ cp (by omega)]
 unfold pI
 rw[hx]
 simp only[aj,e1,an,yCf fm,qM eO.1 (show l.length<9223372036854775808 by omega),yK3 k eO.1 fm,qK,ah eO.1,ao,aH]
 have e0:decide ((0:Int)=0)=true:=rfl
 simp only[j0,Fc,e0,aQ,an]
 rw[yWy hk (vE l x) (Px fm) (by omega)]
 simp only[aj,Jf]
 rw[Pv _ (vE l x) _ (by omega) (by decide)]
 rfl
def wQ (l:AC)(id:Int):Nat:=(l.takeWhile (fun x=>decide (x<id))).length
theorem yZq {x:Int}(h0:0≤x)(h1:x<9223372036854775808):zA (shr .u64 (IntKind.wrap .u64 (zA x)) 1)=x/2:=by
 have e1:zA x=x:=qL (by omega) h1
 have e2:IntKind.wrap .u64 x=x:=by
  unfold IntKind.wrap
  simp only[IntKind.bits,IntKind.signed,Bool.false_and,Bool.false_eq_true,if_false]
  omega
 rw[e1,e2]
 have e3:shr .u64 x 1=x/2:=by
  unfold shr
  have:(2:Int)^(min (1:Int).toNat (IntKind.bits .u64))=2:=by decide
  rw[this,Int.fdiv_eq_ediv_of_nonneg _ (by omega)]
 rw[e3]
 exact qL (by omega) (by omega)
theorem vJq (k:Nat)(a b:Int):Jg k a b=some (decide (a<b)):=by
 unfold Jg Jh
 simp only[decide_true,aQ,aj,an]
theorem PA {k:Nat}{l:AC}{id:Int}(hl:l.length≤1000){c:Nat}(hc:c≤l.length)(h1:∀x,x<c→l.getD x 0<id)(h2:∀x,c≤x→x<l.length→id≤l.getD x 0)(s6:Int):
  ∀(n i j:Nat),i≤c→c≤j→j≤l.length→j-i<n→Fe k n l id s6 i j=some (l,id,s6,(c:Int))
 |0,_,_,_,_,_,h=>absurd h (Nat.not_lt_zero _)
 |n+1,i,j,hi,hj,nu,hn=>by
  show Ji k (Fe k n) l id s6 i j=_
  unfold Ji
  rw[qI]
  by_cases ko:i<j
  ·have hh:zA (shr .u64 (IntKind.wrap .u64 (zA ((i:Int)+(j:Int)))) 1)=(((i+j)/2:Nat):Int):=by
    rw[yZq (by omega) (by omega)];omega
   have hm:(i+j)/2<l.length:=by omega
   rw[ah ko,ao,hh,qK,ah hm,ao,vJq]
   simp only[aj,aH]
   by_cases aS:(i+j)/2<c
   ·rw[ah (h1 _ aS),ao,qM hm (by omega)]
    exact PA hl hc h1 h2 s6 n _ j (by omega) hj nu (by omega)
   ·have:=h2 _ (Nat.not_lt.1 aS) hm
    rw[ak (show¬l.getD ((i+j)/2) 0<id by omega),an]
    exact PA hl hc h1 h2 s6 n i _ hi (by omega) (by omega) (by omega)
  ·rw[ak ko,an]
   have:i=c:=by omega
   rw[this]
theorem yPs {k:Nat}{l:AC}{id:Int}(cp:l.length<k)(hl:l.length≤1000){c:Nat}(hc:c≤l.length)(h1:∀x,x<c→l.getD x 0<id)(h2:∀x,c≤x→x<l.length→id≤l.getD x 0):
  AW k l id=some ((c:Int),decide (c<l.length)&&decide (l.getD c 0=id)):=by
 unfold AW
 have:=PA (k:=k) hl hc h1 h2 (l.length:Int) k 0 l.length (by omega) hc (Nat.le_refl _) (by omega)
 rw[show((0:Nat):Int)=0 from rfl] at this
 rw[this]
 simp only[aj,qI,qK,aH]
 by_cases h:c<l.length
 ·simp only[ah h,ao,Bool.true_and]
  by_cases h3:l.getD c 0=id
  ·rw[ah h3];rfl
  ·rw[ak h3]
   unfold Jj
   simp only[decide_true,an,aj,aQ]
 ·simp only[ak h,an,Bool.false_and]
def pL (l:AC):Prop:=List.Pairwise (fun a b=>a<b) l
theorem yGy {l:AC}{id:Int}:∀x,x<wQ l id→l.getD x 0<id:=by
 intro x hx
 unfold wQ at hx
 have h:=Jd (fun x=>decide (x<id)) l
 have e:l.getD x 0=(l.takeWhile (fun x=>decide (x<id))).getD x 0:=by
  rw[←h.1,List.getD_eq_getElem?_getD,List.getD_eq_getElem?_getD,List.getElem?_take,if_pos hx]
 rw[e]
 have hm:=jW (d:=(0:Int)) hx
 have:=List.all_eq_true.1 (List.all_takeWhile (p:=fun x=>decide (x<id)) (l:=l)) _ hm
 simpa using this
theorem yEl {l:AC}(ha:pL l){id:Int}:∀x,wQ l id≤x→x<l.length→id≤l.getD x 0:=by
 intro x hx hl
 have hi:wQ l id<l.length:=by omega
 have h:=Jd (fun x=>decide (x<id)) l
 have h0:¬l.getD (wQ l id) 0<id:=by
  have hd:l.drop (wQ l id)=l[wQ l id]::l.drop (wQ l id+1):=List.drop_eq_getElem_cons hi
  have h2:=h.2
  unfold wQ at hd
  rw[h2] at hd
  have aW:l.dropWhile (fun x=>decide (x<id))≠[]:=by rw[hd];simp
  have:=List.head_dropWhile_not (fun x=>decide (x<id)) aW
  have e:(l.dropWhile (fun x=>decide (x<id))).head aW=l[wQ l id]:=by
   unfold wQ
   simp only[hd,List.head_cons]
  rw[e] at this
  rw[List.getD_eq_getElem?_getD,List.getElem?_eq_getElem hi]
  simpa using this
 by_cases e:x=wQ l id
 ·rw[e];omega
 ·have:=List.pairwise_iff_getElem.1 ha (wQ l id) x hi hl (by omega)
  rw[List.getD_eq_getElem?_getD,List.getElem?_eq_getElem hl]
  rw[List.getD_eq_getElem?_getD,List.getElem?_eq_getElem hi] at h0
  simp only[Option.getD_some] at h0⊢
  omega
theorem vGg {l:AC}(ha:pL l)(id:Int):(decide (wQ l id<l.length)&&decide (l.getD (wQ l id) 0=id))=decide (id∈l):=by
 by_cases hm:id∈l
 ·obtain⟨x,hx,e⟩:=List.getElem_of_mem hm
  have e':l.getD x 0=id:=by rw[List.getD_eq_getElem?_getD,List.getElem?_eq_getElem hx];exact e
  have h1:¬x<wQ l id:=fun h=>by have:=yGy x h;omega
  have h3:wQ l id<l.length:=by omega
  have h4:¬wQ l id<x:=fun h=>by
   have g1:=yEl ha (id:=id) (wQ l id) (Nat.le_refl _) h3
   have g2:=List.pairwise_iff_getElem.1 ha (wQ l id) x h3 hx h
   rw[List.getD_eq_getElem?_getD,List.getElem?_eq_getElem h3] at g1
   simp only[Option.getD_some] at g1
   omega
  have h5:wQ l id=x:=by omega
  rw[ah hm,ah h3,h5,ah e'];rfl
 ·rw[ak hm]
  by_cases h:wQ l id<l.length
  ·rw[ak (show¬l.getD (wQ l id) 0=id from fun e=>hm (e▸jW h)),Bool.and_false]
  ·rw[ak h];rfl
def pM (l:AC)(id:Int):AC:=l.takeWhile (fun x=>decide (x<id))++(id::l.dropWhile (fun x=>decide (x<id)))
theorem qTy {k:Nat}{l:AC}(cp:l.length<k)(hl:l.length≤1000)(ha:pL l)(id:Int):AW k l id=some ((wQ l id:Int),decide (id∈l)):=by
 rw[yPs cp hl (qYl _ l) yGy (yEl ha)]
 show some ((wQ l id:Int),decide (wQ l id<l.length)&&decide (l.getD (wQ l id) 0=id))=_
 rw[vGg ha]
theorem yZh {k:Nat}{l:AC}(cp:l.length<k)(hl:l.length≤1000)(ha:pL l)(id:Int):Jk k l id=some (decide (id∈l)):=by
 unfold Jk
 rw[qTy cp hl ha]
 rfl
theorem yNs {k:Nat}{l:AC}(cp:l.length<k)(hl:l.length≤1000)(ha:pL l)(id:Int):
  AY k l id=some (bif decide (id∈l) then(l,6) else bif decide (200≤l.length) then(l,3) else(pM l id,0)):=by
 unfold AY
 rw[qTy cp hl ha]
 simp only[aj]
 by_cases hm:id∈l
 ·rw[ah hm];rfl
 ·rw[ak hm]
  simp only[an]
  by_cases h:200≤l.length
  ·rw[ah h,ah (show(l.length:Int)≥200 by omega)];rfl
  ·rw[ak h,ak (show¬(l.length:Int)≥200 by omega)]
   have e2:mA k l=some l:=by
    unfold mA
    rw[qX (by omega) (by omega)]
    rfl
   simp only[an,e2,aj,yL4]
   unfold wQ
   rw[Pv _ l id hl (by decide)]
   rfl
def fu (l:AC):Int:=zL (fun x=>x) l
def sr (x:Int):Bool:=decide (-9223372036854775808≤x)&&decide (x<9223372036854775808)
theorem yGl x:shr .i64 x 63=x/9223372036854775808:=by
 show x.fdiv (2^(min 63 64))=_
 grind
theorem mG x:IntKind.wrap .u64 x=x%18446744073709551616:=by
 rfl
theorem vCi {x}(h:0≤x∧x<18446744073709551616):zA x=if x<9223372036854775808 then x else x-18446744073709551616:=by
 unfold zA IntKind.wrap
 simp[IntKind.bits,IntKind.signed]
 grind
theorem yN2 (l:AC) i (hi:i<l.length):fu (l.take (i+1))=fu (l.take i)+l.getD i 0:=by
 have:l.take (i+1)=l.take i++[l.getD i 0]:=by
  simp_all
 unfold fu
 rw[this,iM]
 simp[zL]
theorem yE5 {k l}(hk:l.length<k)(hl:l.length≤1000000)(hw:∀i,i<l.length→-9223372036854775808≤l.getD i 0∧l.getD i 0<9223372036854775808):
  AZ k l=some (bif sr (fu l) then(fu l,true) else(0,false)):=by
 obtain ⟨s', g1, g2, g3, g4⟩ := wC (L := fun n i (s : Int × Int) => A0 k n s.1 s.2 l (l.length : Int) i) (N := l.length) (fun s => (s.1, s.2)) (fun i s => (0 ≤ s.2 ∧ s.2 < 18446744073709551616) ∧ s.1 * 18446744073709551616 + s.2 = fu (l.take i) ∧ (-(i : Int) ≤ s.1 ∧ s.1 ≤ i)) (fun n s _=>by
  show A2 k _ s.1 s.2 l l.length l.length=_
  unfold A2
  simp only [qI, ak (Nat.lt_irrefl _), an]) (fun n i s hi hs=>by
  obtain⟨h,lo⟩:=s
  obtain⟨⟨h1,h2⟩,h3,h4⟩:=hs
  simp only at h1 h2 h3 h4
  show∃s',A2 k _ h lo l l.length i=_∧_
  unfold A2 yg
  have hb:=hw i hi
  have ss:=yN2 l i hi
  obtain⟨v,hv⟩:∃v,l.getD i 0=v:=⟨_,rfl⟩
  rw[hv] at hb ss
  simp only[qI,qK,aH,ah hi,ao,hv,mG,yGl,decide_true,aj,qM hi (show l.length<9223372036854775808 by omega)]
  obtain⟨u,hu⟩:∃u,v%18446744073709551616=u:=⟨_,rfl⟩
  rw[hu]
  obtain⟨q,hq⟩:∃q,v/9223372036854775808=q:=⟨_,rfl⟩
  rw[hq]
  have nj:u=v-q*18446744073709551616:=by omega
  have lH:q=0∨q= -1:=by omega
  obtain⟨a,ha⟩:∃a:Nat,lo.toNat+u.toNat+0=a:=⟨_,rfl⟩
  rw[ha]
  have nc:(a:Int)=lo+u:=by omega
  obtain⟨c,hc⟩:∃c:Nat,a/18446744073709551616=c:=⟨_,rfl⟩
  obtain⟨m,hm⟩:∃c:Nat,a%18446744073709551616=c:=⟨_,rfl⟩
  rw[hc,hm]
  have hcm:a=c*18446744073709551616+m:=by omega
  have kG:m<18446744073709551616:=by omega
  have ir:c≤1:=by omega
  have e1:zA (Int.ofNat c)=(c:Int):=qL (by show(_:Int)≤((c:Nat):Int);omega) (by show((c:Nat):Int)<_;omega)
  have e2:zA (q+(c:Int))=q+c:=qL (by omega) (by omega)
  have e3:zA (h+(q+(c:Int)))=h+(q+c):=qL (by omega) (by omega)
  rw[e1,e2,e3]
  refine⟨(h+(q+c),(m:Int)),rfl,by grind,?_,?_⟩
  ·rw[ss]
   show(h+(q+c))*18446744073709551616+(m:Int)=_
   omega
  ·show-((i+1:Nat):Int)≤h+(q+c)∧h+(q+c)≤((i+1:Nat):Int)
   omega) (s:=(0,0)) hk ⟨⟨by show(0:Int)≤0;omega,by show(0:Int)<_;omega⟩,rfl,by show-((0:Nat):Int)≤0;omega,by show(0:Int)≤((0:Nat):Int);omega⟩
 have PB:A0 k k 0 0 l (l.length:Int) 0=some (s'.1,s'.2):=g1
 rw[List.take_length] at g3
 unfold AZ
 rw[PB]
 simp only[aj,yGl]
 rw[vCi g2]
 by_cases c:sr (fu l)=true
 ·have c':-9223372036854775808≤fu l∧fu l<9223372036854775808:=by simpa[sr] using c
  rw[c]
  by_cases d:s'.2<9223372036854775808
  ·rw[if_pos d,ah (show s'.1=s'.2/9223372036854775808 by omega)]
   simp only[aQ,an,ao]
   rw[show s'.2=fu l by omega]
  ·rw[if_neg d,ah (show s'.1=(s'.2-18446744073709551616)/9223372036854775808 by omega)]
   simp only[aQ,an,ao]
   rw[show s'.2-18446744073709551616=fu l by omega]
 ·have c':¬(-9223372036854775808≤fu l∧fu l<9223372036854775808):=by simpa[sr] using c
  rw[Bool.not_eq_true] at c
  rw[c]
  by_cases d:s'.2<9223372036854775808
  ·rw[if_pos d,ak (show¬s'.1=s'.2/9223372036854775808 by omega)]
   rfl
  ·rw[if_neg d,ak (by grind)]
   rfl
theorem PD {x:Int}(h:0≤x):fl .u64 x 4294967295=x%4294967296:=by
 obtain⟨n,rfl⟩:=Int.eq_ofNat_of_zero_le h
 unfold fl tl
 rw[mG]
 have e1:(BitVec.ofInt IntKind.u64.bits (n:Int)&&&BitVec.ofInt IntKind.u64.bits 4294967295).toNat=n%4294967296:=by
  rw[BitVec.toNat_and,BitVec.toNat_ofInt,BitVec.toNat_ofInt]
  have e2:((4294967295:Int)%((2^IntKind.u64.bits:Nat):Int)).toNat=2^32-1:=by decide
  rw[e2,Nat.and_two_pow_sub_one_eq_mod]
  have e3:((n:Int)%((2^IntKind.u64.bits:Nat):Int)).toNat=n%18446744073709551616:=by
   show((n:Int)%((18446744073709551616:Nat):Int)).toNat=_
   omega
  rw[e3]
  show n%18446744073709551616%4294967296=_
  omega
 rw[e1]
 omega
theorem vIq (x:Int):shr .u64 x 32=x/4294967296:=by
 show x.fdiv (2^(min 32 64))=_
 rw[Int.fdiv_eq_ediv_of_nonneg _ (by decide)]
 rfl
theorem vIr {a1 a0 b1 b0:Int}:(a1*4294967296+a0)*(b1*4294967296+b0)=a1*b1*18446744073709551616+(a1*b0+a0*b1)*4294967296+a0*b0:=by
 rw[Int.add_mul,Int.mul_add,Int.mul_add]
 have e1:a1*4294967296*(b1*4294967296)=a1*b1*18446744073709551616:=by
  rw[Int.mul_assoc,←Int.mul_assoc 4294967296 b1,Int.mul_comm 4294967296 b1,Int.mul_assoc b1,←Int.mul_assoc];rfl
 have e2:a1*4294967296*b0=a1*b0*4294967296:=by rw[Int.mul_assoc,Int.mul_comm 4294967296 b0,←Int.mul_assoc]
 have e3:a0*(b1*4294967296)=a0*b1*4294967296:=by rw[←Int.mul_assoc]
 rw[e1,e2,e3]
 omega
theorem pN {a b A B:Int}(h0:0≤a)(h1:a≤A)(g0:0≤b)(g1:b≤B):0≤a*b∧a*b≤A*B:=
 ⟨Int.mul_nonneg h0 g0,Int.mul_le_mul h1 g1 g0 (by omega)⟩
theorem yGq (k:Nat){x y:Int}(hx:0≤x∧x<18446744073709551616)(hy:0≤y∧y<18446744073709551616):Ff k x y=some (x*y/18446744073709551616,x*y%18446744073709551616):=by
 unfold Ff
 simp only[vIq,PD hx.1,PD hy.1,mG]
 obtain⟨a1,h1⟩:∃a,x/4294967296=a:=⟨_,rfl⟩
 obtain⟨a0,h0⟩:∃a,x%4294967296=a:=⟨_,rfl⟩
 obtain⟨b1,g1⟩:∃a,y/4294967296=a:=⟨_,rfl⟩
 obtain⟨b0,g0⟩:∃a,y%4294967296=a:=⟨_,rfl⟩
 have hxe:x=a1*4294967296+a0:=by omega
 have hye:y=b1*4294967296+b0:=by omega
 rw[h1,h0,g1,g0]
 have Jl:0≤a1∧a1≤4294967295:=by omega
 have kr:0≤a0∧a0≤4294967295:=by omega
 have dF:0≤b1∧b1≤4294967295:=by omega
 have A3:0≤b0∧b0≤4294967295:=by omega
 have p11:=pN Jl.1 Jl.2 dF.1 dF.2
 have px:=pN Jl.1 Jl.2 A3.1 A3.2
 have p01:=pN kr.1 kr.2 dF.1 dF.2
 have p00:=pN kr.1 kr.2 A3.1 A3.2
 have IU:x*y=a1*b1*18446744073709551616+(a1*b0+a0*b1)*4294967296+a0*b0:=by rw[hxe,hye,vIr]
 rw[IU]
 generalize a1*b1=u at*
 generalize a1*b0=v at*
 generalize a0*b1=s at*
 generalize a0*b0=t at*
 have c1:(t%18446744073709551616)=t:=by omega
 have c2:(v%18446744073709551616+t/4294967296)%18446744073709551616=v+t/4294967296:=by omega
 rw[c1,c2]
 have Fg:fl .u64 (v+t/4294967296) 4294967295=(v+t/4294967296)%4294967296:=PD (by omega)
 rw[Fg]
 refine congrArg some (Prod.ext ?_ ?_)
 ·show _%_=_/_
  omega
 ·rfl
theorem yOp (k:Nat){x:Int}(hx:0≤x∧x<18446744073709551616):Jm k 0 x 10000=some (x/10000,x%10000):=by
 unfold Jm
 have e1:decide ((10000:Int)=0)=false:=rfl
 have e2:decide ((10000:Int)≤0)=false:=rfl
 simp only[e1,e2,decide_true,an,ao,dJ,mG]
 rw[Int.tdiv_eq_ediv_of_nonneg hx.1,Int.tmod_eq_emod_of_nonneg hx.1]
 have:x/10000%18446744073709551616=x/10000:=by omega
 rw[this]
def A4 (price many cut:Int):Int:=price*many*(10000-cut)/10000
theorem vFs {p m c:Int}(hp:0≤p∧p≤1048576)(hm:0≤m∧m≤1099511627776)(hc:0≤c∧c≤10000):0≤A4 p m c∧A4 p m c≤1152921504606846976:=by
 have h1:=pN hp.1 hp.2 hm.1 hm.2
 have h2:=pN h1.1 h1.2 (show 0≤10000-c by omega) (show 10000-c≤10000 by omega)
 unfold A4
 generalize p*m*(10000-c)=z at*
 omega
theorem vJ7 (k:Nat){p m c:Int}(hp:0≤p∧p≤1048576)(hm:0≤m∧m≤1099511627776)(hc:0≤c∧c≤10000):Jn k p m c=some (A4 p m c,true):=by
 unfold Jn PE
 have w1:zA (10000-c)=10000-c:=qL (by omega) (by omega)
 have e1:decide (p<0)=false:=ak (by omega)
 have e2:decide (m<0)=false:=ak (by omega)
 have e3:decide (c≥0)=true:=ah (by omega)
 have e4:decide (c≤10000)=true:=ah (by omega)
 have u1:p%18446744073709551616=p:=by omega
 have u2:m%18446744073709551616=m:=by omega
 have u3:(10000-c)%18446744073709551616=10000-c:=by omega
 have h1:=pN hp.1 hp.2 hm.1 hm.2
 have hP:p*m/18446744073709551616=0:=by omega
 have hP2:p*m%18446744073709551616=p*m:=by omega
 have t0:Int.tmod 0 10000=0:=by simp
 have t1:Int.tdiv 0 10000=0:=by simp
 rw[e1,e2,e3,e4,an,an,ao,aj,aQ,an,mG p,mG m,u1,u2,yGq k (show 0≤p∧p<18446744073709551616 by omega) (show 0≤m∧m<18446744073709551616 by omega),aj,hP,hP2]
 dsimp only
 rw[t0,t1,yOp k (show 0≤p*m∧p*m<18446744073709551616 by omega),aj]
 dsimp only
 rw[w1,mG (10000-c),u3]
 unfold A4
 obtain⟨l,hl⟩:∃l,10000-c=l:=⟨_,rfl⟩
 rw[hl]
 obtain⟨P,hPe⟩:∃P,p*m=P:=⟨_,rfl⟩
 rw[hPe] at h1⊢
 have fm:0≤l∧l≤10000:=by omega
 rw[yGq k (show 0≤P/10000∧P/10000<18446744073709551616 by omega) (show 0≤l∧l<18446744073709551616 by omega)]
 have hq:=pN (show 0≤P/10000 by omega) (show P/10000≤115292150460684 by omega) fm.1 fm.2
 have hr:=pN (show 0≤P%10000 by omega) (show P%10000≤9999 by omega) fm.1 fm.2
 have uQ:P*l=P/10000*l*10000+P%10000*l:=by
  have:P=P/10000*10000+P%10000:=by omega
  have e:P/10000*l*10000=P/10000*10000*l:=by rw[Int.mul_assoc,Int.mul_comm l,←Int.mul_assoc]
  rw[e,←Int.add_mul,←this]
 rw[uQ]
 generalize P/10000*l=a at*
 generalize P%10000*l=b at*
 have v1:a/18446744073709551616=0:=by omega
 have v2:a%18446744073709551616=a:=by omega
 have v3:b%18446744073709551616=b:=by omega
 have v4:Int.tdiv b 10000=b/10000:=Int.tdiv_eq_ediv_of_nonneg hr.1
 have v5:b/10000%18446744073709551616=b/10000:=by omega
 have ha:yg k a (b/10000) 0=some (a+b/10000,0):=by
  have n1:(Int.ofNat ((a.toNat+(b/10000).toNat+0)%18446744073709551616))=a+b/10000:=by rw[Int.ofNat_eq_natCast];omega
  have n2:(Int.ofNat ((a.toNat+(b/10000).toNat+0)/18446744073709551616))=0:=by rw[Int.ofNat_eq_natCast];omega
  unfold yg
  rw[ah rfl,ao,n1,n2]
 rw[aj]
 dsimp only
 rw[v1,v2,mG b,v3,v4,mG (b/10000),v5,ha,aj]
 dsimp only
 have z1:IntKind.wrap .u64 0=0:=by rw[mG];omega
 have z2:IntKind.wrap .u64 (0+0)=0:=by rw[mG];omega
 have z3:decide ((0:Int)>0)=false:=ak (by omega)
 have z4:decide (a+b/10000>9223372036854775807)=false:=ak (by omega)
 have z5:zA (a+b/10000)=a+b/10000:=qL (by omega) (by omega)
 rw[z1,z2,z3,z4,z5,an,an,an]
 have:(a*10000+b)/10000=a+b/10000:=by omega
 rw[this]
abbrev gZ:=Int×Int
abbrev uR:gZ:=(0,0)
def mH (sa:List gZ)(pr h:AC)(i:Nat):Int:=A4 (pr.getD i 0) (h.getD i 0) (sa.getD i uR).2
def g9 (sa:List gZ)(pr h:AC):Int:=qG (mH sa pr h) sa.length
structure hY (sa:List gZ) (pr h:AC):Prop where
 n3:sa.length≤3
 pl:pr.length=sa.length
 hl:h.length=sa.length
 cut:∀i,i<sa.length→0≤(sa.getD i uR).2∧(sa.getD i uR).2≤10000
 price:∀i,i<sa.length→0≤pr.getD i 0∧pr.getD i 0≤1048576
 hold:∀i,i<sa.length→0≤h.getD i 0∧h.getD i 0≤1099511627776
theorem PF {sa:List gZ}{pr h:AC}(L:hY sa pr h){i:Nat}(hi:i<sa.length):0≤mH sa pr h i∧mH sa pr h i≤1152921504606846976:=vFs (L.price i hi) (L.hold i hi) (L.cut i hi)
theorem PG (g:Nat→Int):∀n,fu ((List.range n).map g)=qG g n
 |0=>rfl
 |n+1=>by
  rw[List.range_succ,List.map_append]
  unfold fu
  rw[iM]
  have:=PG g n
  unfold fu at this
  rw[this]
  show qG g n+(g n+0)=qG g n+g n
  omega
theorem PH {g:Nat→Int}{A:Int}:∀{n:Nat},(∀j,j<n→0≤g j∧g j≤A)→0≤qG g n∧qG g n≤n*A
 |0,_=>by simp[qG]
 |n+1,h=>by
  have h1:=PH (n:=n) (fun j hj=>h j (by omega))
  have h2:=h n (by omega)
  have h3:((n+1:Nat):Int)*A=n*A+A:=by rw[Int.natCast_add,Int.add_mul];simp
  rw[h3]
  show 0≤qG g n+g n∧qG g n+g n≤_
  omega
theorem yYs {k:Nat}{sa:List gZ}{pr h:AC}(L:hY sa pr h)(hk:10≤k):A5 k k pr h sa sa.length 0 []=some (.inl ((List.range sa.length).map (mH sa pr h))):=by
 have hn:=L.n3
 obtain ⟨s', h1, h2⟩ := wC (L := fun n i (s : AC) => A5 k n pr h sa sa.length i s) (N := sa.length) (fun s => .inl s) (fun i s => s = (List.range i).map (mH sa pr h)) (fun n s _=>by
  show A6 k _ pr h sa sa.length sa.length s=_
  unfold A6
  simp only [qI, ak (Nat.lt_irrefl _), an]) (fun n i s hi hs=>by
  refine⟨s++[mH sa pr h i],?_,?_⟩
  ·show A6 k _ pr h sa sa.length i s=_
   unfold A6
   have fP:s.length≤3:=by rw[hs,List.length_map,List.length_range];omega
   have hw:=vJ7 k (L.price i hi) (L.hold i hi) (L.cut i hi)
   simp only[qI,qK,aH,ah hi,ah (show i<pr.length by rw[L.pl];exact hi),ah (show i<h.length by rw[L.hl];exact hi),ao,qM hi (show sa.length<9223372036854775808 by omega)]
   rw[hw]
   simp only[aj,aQ,an,qX (show(s.length+1)*8≤140737488355328 by omega) (show s.length+1≤140737488355328 by omega),ao]
   rfl
  ·rw[hs,List.range_succ,List.map_append];rfl) (s:=[]) (show sa.length<k by omega) rfl
 have fJ:A5 k k pr h sa sa.length 0 []=_:=h1
 rw[fJ,h2]
theorem PI {k:Nat}{sa:List gZ}{pr h:AC}(L:hY sa pr h)(hk:10≤k):nS k sa pr h=some (g9 sa pr h,true):=by
 have hn:=L.n3
 have hb:=PH (g:=mH sa pr h) (n:=sa.length) (fun j hj=>PF L hj)
 have hm:(sa.length:Int)*1152921504606846976≤3*1152921504606846976:=Int.mul_le_mul_of_nonneg_right (by omega) (by decide)
 unfold nS
 have e1:decide ((pr.length:Int)=(sa.length:Int))=true:=ah (by rw[L.pl])
 have e2:decide ((h.length:Int)=(sa.length:Int))=true:=ah (by rw[L.hl])
 simp only[e1,e2,aQ,an]
 rw[yYs L hk]
 simp only[aj]
 rw [yE5 (by rw [List.length_map, List.length_range]; omega) (by rw [List.length_map, List.length_range]; omega) (fun i hi=>by
  rw[List.length_map,List.length_range] at hi
  have:=PF L hi
  have e:((List.range sa.length).map (mH sa pr h)).getD i 0=mH sa pr h i:=by
   rw[List.getD_eq_getElem?_getD,List.getElem?_map,List.getElem?_range hi];rfl
  rw[e];omega)]
 rw[PG]
 have e3:sr (qG (mH sa pr h) sa.length)=true:=by
  unfold sr
  rw[ah (by omega),ah (by omega)];rfl
 rw[e3]
 rfl
theorem Jo {sa:List gZ}{pr h:AC}(L:hY sa pr h):0≤g9 sa pr h:=(PH (g:=mH sa pr h) (n:=sa.length) (fun j hj=>PF L hj)).1
theorem yG9 {k:Nat}{l:AC}(hl:l.length≤1000){i:Int}(h0:0≤i)(h1:i<l.length)(v:Int):mI k l i v=some (l.set i.toNat v):=by
 unfold mI
 have e2:mA k l=some l:=by
  unfold mA
  rw[qX (by omega) (by omega)]
  rfl
 simp only[e2,aj,ah (show i≥0 by omega),ah h1,ao,eT h0 h1]
theorem Jp {a b m p l r}(hb:wO a b m p)(h:nQ a b m p l r):
  qG (fun i=>(r.1.getD i ad).1) a.length=qG (fun i=>(a.getD i ad).1) a.length∧wO r.1 r.2.1 r.2.2.1 r.2.2.2.1∧(r.2.2.2.2=0∨(r.1=a∧r.2.1=b∧r.2.2.1=m∧r.2.2.2.1=p)):=by
 by_cases c:wE a.length l
 ·obtain⟨a',p',x,e⟩:=h.1 c
  cases hi:jy a' b m p' with
  |false=>
   simp_all
  |true=>
   rw[hi] at e
   subst e
   refine⟨?_,IG.1 hi,.inl rfl⟩
   have e1:qG (fun i=>(a'.getD i ad).1) a.length=qG (fun i=>(a.getD i ad).1+zL (gB i) l) a.length:=mv fun j hj=>by rw[x.acct j hj]
   show qG (fun i=>(a'.getD i ad).1) a.length=_
   rw[e1,yj,Ii]
   have e2:zL (fun p=>qG (fun j=>gB j p) a.length) l=zL (fun _=>(0:Int)) l:=Ih fun p hp=>by
    obtain⟨f0,f1,t0,t1,ne,a1,a2,c1,c3⟩:=c.1 p hp
    obtain⟨f,hf⟩:∃f:Nat,p.2.1=f:=⟨p.2.1.toNat,by omega⟩
    obtain⟨t,ht⟩:∃t:Nat,p.2.2.1=t:=⟨p.2.2.1.toNat,by omega⟩
    have g1:∀j,gB j p=(if j=t then p.2.2.2.1 else 0)+(if j=f then-p.2.2.2.1 else 0):=by
     unfold gB
     omega
    rw[mv fun j _=>g1 j,yj,uz,uz,if_pos (by omega),if_pos (by omega)]
    omega
   have e3:∀l:List zC,zL (fun _:zC=>(0:Int)) l=0:=by
    intro l
    induction l with
    |nil=>rfl
    |cons p l ih=>show 0+zL _ l=0;omega
   simp_all
 ·have e:=h.2 c
  simp_all
abbrev BT:=List qR×EQ×AC×EQ
def yA (B:BT):Prop:=wO B.1 B.2.1 B.2.2.1 B.2.2.2
theorem Jq {k}(hk:100<k){B}(h:yA B){l:List zC}(hl:l.length≤80):
  ∃r,mC k B.1 B.2.1 B.2.2.1 B.2.2.2 l=some r∧O5 k B.1 B.2.1 B.2.2.1 B.2.2.2 l=some r∧nQ B.1 B.2.1 B.2.2.1 B.2.2.2 l r:=by
 obtain⟨r,h1,h2⟩:=IW hk h hl
 obtain⟨r',h3,h4⟩:=vJu hk h hl
 have:=h2.same h4
 simp_all
def uS (B:BT)(l:List zC):Bool:=zu B.1 B.2.1 B.2.2.1 B.2.2.2 l
def gD (k:Nat)(B:BT)(l:List zC):Option BT:=match mC k B.1 B.2.1 B.2.2.1 B.2.2.2 l with
 |some r=>bif decide (r.2.2.2.2=0)&&uS B l then some (r.1,r.2.1,r.2.2.1,r.2.2.2.1) else none
 |none=>none
theorem su {k}(hk:100<k){B C}(h:yA B){l}(hl:l.length≤80)(hg:gD k B l=some C):yA C∧C.1.length=B.1.length:=by
 obtain⟨r,h1,h2,h3⟩:=Jq hk h hl
 unfold gD at hg
 rw[h1] at hg
 simp only at hg
 cases hc:decide (r.2.2.2.2=0)&&uS B l with
 |false=>
  simp_all
 |true=>
  rw[hc] at hg
  simp  at hg
  subst hg
  refine⟨(Jp h h3).2.1,?_⟩
  by_cases c:wE B.1.length l
  ·obtain⟨a',p',x,e⟩:=h3.1 c
   cases hi:jy a' B.2.1 B.2.2.1 p' with
   |false=>simp_all
   |true=>rw[hi] at e;subst e;exact x.al
  ·rw[h3.2 c]
def jY (k:Nat)(B:BT):List zC→Option (zC×BT)
 |[]=>none
 |p::l=>match gD k B [p] with
  |some C=>some (p,C)
  |none=>jY k B l
theorem A7 {k B C p}:∀{l},jY k B l=some (p,C)→p∈l∧gD k B [p]=some C
 |q::l,h=>by
  unfold jY at h
  cases hg:gD k B [q] with
  |some D=>
   simp_all
  |none=>
   rw[hg] at h
   have:=A7 h
   simp_all
theorem yT0 k B {m:List zC}{i}(hi:i<m.length):jY k B (m.drop i)=match gD k B [m.getD i pd] with
  |some C=>some (m.getD i pd,C)
  |none=>jY k B (m.drop (i+1)):=by
 rw[List.drop_eq_getElem_cons hi]
 have e:m.getD i pd=m[i]:=by simp_all
 rw[e]
 rfl
theorem qT4 l t:(wM l t).length≤l.length:=Nat.le_trans (List.length_filter_le _ _) (by grind)
def jV (l:List zC)(id:Int):List zC:=(mE l id).1
theorem uT {l p}(h:p∈l):(jV l p.1).length+1=l.length∧List.Sublist (jV l p.1) l:=by
 obtain⟨x,hx⟩:=Ja h
 unfold jV mE
 rw[hx]
 have:=(lF hx).1
 refine⟨?_,pJ l x⟩
 rw[nR this]
 omega
theorem Fh {l t p}(h:p∈wM l t):p∈l:=(List.mem_filter.1 (List.mem_filter.1 h).1).1
inductive fw (k:Nat) (t:Int):BT→List zC→List zC→BT→List zC→Prop
 |stop {B:BT} {l:List zC} (h:jY k B (wM l t)=none):fw k t B l [] B l
 |step {B C D:BT} {l m done:List zC} {p:zC} (h:jY k B (wM l t)=some (p,C)) (h':fw k t C (jV l p.1) done D m):fw k t B l (p::done) D m
theorem yI2 {k}(hk:100<k){B}(h:yA B){l:List zC}(hl:l.length≤80):uN k B.1 B.2.1 B.2.2.1 B.2.2.2 l=some (uS B l):=vAs hk h hl
theorem yI5 {k}(hk:100<k){B}(h:yA B)(m:List zC)(hm:m.length≤1000):∀c i n,i+c=m.length→c<n→
  Fi k n m.length i B.1 B.2.1 B.2.2.1 B.2.2.2 0 0 0 0 0 0 0 m = some (match jY k B (m.drop i) with
   |some (p,C)=>.inr (true,p.1,p.2.1,p.2.2.1,p.2.2.2.1,p.2.2.2.2.1,p.2.2.2.2.2.1,p.2.2.2.2.2.2,C.1,C.2.1,C.2.2.1,C.2.2.2)
   |none=>.inl (B.1,B.2.1,B.2.2.1,B.2.2.2,0,0,0,0,0,0,0))
 |0,i,n,e,hn=>by
  obtain⟨n,rfl⟩:∃x,n=x+1:=⟨n-1,by omega⟩
  have:i=m.length:=by omega
  subst this
  show A8 k _ m.length m.length B.1 B.2.1 B.2.2.1 B.2.2.2 0 0 0 0 0 0 0 m=_
  unfold A8
  simp
  rfl
 |c+1,i,n,e,hn=>by
  obtain⟨n,rfl⟩:∃x,n=x+1:=⟨n-1,by omega⟩
  have hi:i<m.length:=by omega
  have ih:=yI5 hk h m hm c (i+1) n (by omega) (by omega)
  show A8 k _ m.length i B.1 B.2.1 B.2.2.1 B.2.2.2 0 0 0 0 0 0 0 m=_
  unfold A8
  obtain⟨r,h1,h2,h3⟩:=Jq hk h (l:=[m.getD i pd]) (by simp)
  have hf:=yI2 hk h (l:=[m.getD i pd]) (by simp)
  simp[qK,qM hi (by grind)]
  rw[yT0 k B hi]
  unfold gD
  grind
def yIr (B:BT)(x:Option (zC×BT)):Int×Int×Int×Int×Int×Int×Int×(List (Int×Int×Int))×EQ×AC×EQ×Bool:=match x with
 |some (p,C)=>(p.1,p.2.1,p.2.2.1,p.2.2.2.1,p.2.2.2.2.1,p.2.2.2.2.2.1,p.2.2.2.2.2.2,C.1,C.2.1,C.2.2.1,C.2.2.2,true)
 |none=>(0,0,0,0,0,0,0,B.1,B.2.1,B.2.2.1,B.2.2.2,false)
theorem vF2 {k}(hk:100<k){B}(h:yA B){l}(cp:l.length<k)(hl:yZ l)(hd:qQ l) t:Jr k B.1 B.2.1 B.2.2.1 B.2.2.2 l t=some (yIr B (jY k B (wM l t))):=by
 unfold Jr
 rw[qQ6 cp hl hd]
 have Js:=qT4 l t
 unfold yZ at hl
 have:=yI5 hk h (wM l t) (by omega) (wM l t).length 0 k (by omega) (by omega)
 have e:((0:Nat):Int)=0:=rfl
 rw[e,List.drop_zero] at this
 simp
 rw[this]
 cases jY k B (wM l t) with
 |none=>rfl
 |some x=>rfl
theorem qTj {k}(hk:100<k) t:∀n B (l r:List zC),yA B→qQ l→l.length≤100→l.length<n→r.length+l.length≤1000→
  ∃(C:BT) (m done:List zC),Fj k n t l B.1 B.2.1 B.2.2.1 B.2.2.2 r=some (m,C.1,C.2.1,C.2.2.1,C.2.2.2,r++done)∧fw k t B l done C m∧yA C∧C.1.length=B.1.length∧List.Sublist m l
 |n+1,B,l,r,hb,hd,hl,hn,hr=>by
  have h1:=vF2 hk hb (l:=l) (by omega) (by show l.length≤1000;omega) hd t
  cases hx:jY k B (wM l t) with
  |none=>
   rw[hx] at h1
   refine⟨B,l,[],?_,.stop hx,hb,rfl,by simp⟩
   show A9 k _ t l B.1 B.2.1 B.2.2.1 B.2.2.2 r=_
   unfold A9
   rw[h1]
   simp only[aj,yIr,dJ,ao,List.append_nil]
  |some x=>
   obtain⟨p,C⟩:=x
   rw[hx] at h1
   obtain⟨hp,hg⟩:=A7 hx
   have Hr:=Fh hp
   obtain⟨xw,ng⟩:=uT Hr
   obtain⟨uv,bU⟩:=su hk hb (by simp) hg
   obtain⟨D,m,done,g1,g3,g4,g5,g6⟩:=qTj hk t n C (jV l p.1) (r++[p]) uv (List.Pairwise.sublist ng hd) (by omega) (by omega) (by grind)
   refine⟨D,m,p::done,?_,.step hx g3,g4,by grind,g6.trans ng⟩
   show A9 k _ t l B.1 B.2.1 B.2.2.1 B.2.2.2 r=_
   unfold A9
   rw[h1]
   simp[uP (show l.length<k by omega) (show yZ l by show l.length≤1000;omega),sj (show r.length≤1000 by omega)]
   rw[List.append_cons r p done,←g1]
   rfl
theorem yOe {k}(hk:200≤k){B}(hb:yA B){l}(hd:qQ l)(hl:l.length≤100) t:
  ∃(C:BT) (m done:List zC),Jt k B.1 B.2.1 B.2.2.1 B.2.2.2 l t=some (C.1,C.2.1,C.2.2.1,C.2.2.2,m,done)∧fw k t B l done C m∧yA C∧C.1.length=B.1.length∧List.Sublist m l:=by
 obtain⟨C,m,done,h1,h3⟩:=qTj (show 100<k by omega) t k B l [] hb hd hl (by omega) (by grind)
 refine⟨C,m,done,?_,h3⟩
 unfold Jt
 simp_all
def nT (p q:zC):Bool:=decide (q.2.1=p.2.2.1)&&(decide (q.2.2.1=p.2.1)&& !decide (p.2.1≥q.2.1))
def nU (k:Nat)(B:BT)(p:zC):List zC→Option (zC×BT)
 |[]=>none
 |q::l=>match(bif nT p q then gD k B [p,q] else none) with
  |some C=>some (q,C)
  |none=>nU k B p l
def sv (k:Nat)(B:BT)(m:List zC):List zC→Option (zC×zC×BT)
 |[]=>none
 |p::l=>match nU k B p m with
  |some (q,C)=>some (p,q,C)
  |none=>sv k B m l
theorem PJ {k B C p q}:∀{l},nU k B p l=some (q,C)→q∈l∧nT p q=true∧gD k B [p,q]=some C
 |r::l,h=>by
  unfold nU at h
  cases hd:nT p r with
  |false=>
   rw[hd] at h
   have:=PJ (l:=l) h
   simp_all
  |true=>
   rw[hd] at h
   cases hg:gD k B [p,r] with
   |some D=>
    simp_all
   |none=>
    rw[hg] at h
    have:=PJ (l:=l) h
    simp_all
theorem Ju {k B C p q m}:∀{l},sv k B m l=some (p,q,C)→p∈l∧q∈m∧nT p q=true∧gD k B [p,q]=some C
 |r::l,h=>by
  unfold sv at h
  cases hq:nU k B r m with
  |some x=>
   rw[hq] at h
   cases h
   exact⟨by simp,PJ hq⟩
  |none=>
   rw[hq] at h
   have:=Ju (l:=l) h
   simp_all
theorem qSo {α:Type}{l:List α}{i} h d:l.getD i d=l[i]:=by
 simp_all
theorem yYq k B p {m:List zC}{i}(hi:i<m.length):nU k B p (m.drop i)=match(bif nT p (m.getD i pd) then gD k B [p,m.getD i pd] else none) with
  |some C=>some (m.getD i pd,C)
  |none=>nU k B p (m.drop (i+1)):=by
 rw[List.drop_eq_getElem_cons hi,qSo hi]
 rfl
theorem yO9 k B r {m:List zC}{i}(hi:i<m.length):sv k B r (m.drop i)=match nU k B (m.getD i pd) r with
  |some (q,C)=>some (m.getD i pd,q,C)
  |none=>sv k B r (m.drop (i+1)):=by
 rw[List.drop_eq_getElem_cons hi,qSo hi]
 rfl
def eH (k:Nat)(B:BT)(l:List zC)(t:Int):Option (zC×zC×BT):=sv k B (wM l t) (wM l t)
theorem yZ2 {l x q}(hx:x<l.length)(h:q∈l)(aW:q≠l.getD x pd):q∈vE l x:=by
 unfold vE
 have e:=E4 l x pd hx
 grind
theorem qQ.eq_of {l}(h:qQ l){p q}(hp:p∈l)(hq:q∈l)(e:p.1=q.1):p=q:=by
 obtain⟨i,hi,ei⟩:=List.getElem_of_mem hp
 obtain⟨j,hj,ej⟩:=List.getElem_of_mem hq
 have hl:=List.pairwise_iff_getElem.1 h
 grind
theorem PK {l p q}(hp:p∈l)(hq:q∈l)(aW:q.1≠p.1):q∈jV l p.1:=by
 obtain⟨x,hx⟩:=Ja hp
 unfold jV mE
 rw[hx]
 have:=lF hx
 exact yZ2 this.1 hq (by grind)
def uU (l:List zC)(p q:zC):List zC:=jV (jV l p.1) q.1
theorem Fk {k B C l t p q}(h:eH k B l t=some (p,q,C)):p∈l∧q∈l∧nT p q=true∧gD k B [p,q]=some C:=by
 obtain⟨h1,h2,h3⟩:=Ju h
 exact⟨Fh h1,Fh h2,h3⟩
theorem yDu {l}(hd:qQ l){p q}(hp:p∈l)(hq:q∈l)(h:nT p q=true):q.1≠p.1:=by
 intro e
 have:=hd.eq_of hq hp e
 subst this
 unfold nT at h
 simp at h
theorem Fl {l}(hd:qQ l){p q}(hp:p∈l)(hq:q∈l)(h:nT p q=true):(uU l p q).length+2=l.length∧List.Sublist (uU l p q) l:=by
 obtain⟨h1,h2⟩:=uT hp
 obtain⟨h3,h4⟩:=uT (PK hp hq (yDu hd hp hq h))
 unfold uU
 exact⟨by omega,h4.trans h2⟩
inductive jT (k:Nat) (t:Int):BT→List zC→List zC→BT→List zC→Prop
 |stop {B:BT} {l:List zC} (h:eH k B l t=none):jT k t B l [] B l
 |step {B C D:BT} {l m done:List zC} {p q:zC} (h:eH k B l t=some (p,q,C)) (h':jT k t C (uU l p q) done D m):jT k t B l (p::q::done) D m
theorem jT.length {k t B C l done m}(h:jT k t B l done C m)(hd:qQ l):done.length+m.length=l.length∧done.length%2=0:=by
 induction h with
 |stop _=>simp
 |step h _ ih=>
  obtain⟨hp,hq,nV,_⟩:=Fk h
  obtain⟨h1,h2⟩:=Fl hd hp hq nV
  have:=ih (List.Pairwise.sublist h2 hd)
  grind
theorem jT.sub {k t B C l done m}(h:jT k t B l done C m)(hd:qQ l):List.Sublist m l:=by
 induction h with
 |stop _=>simp
 |step h _ ih=>
  obtain⟨hp,hq,nV,_⟩:=Fk h
  obtain⟨h1,h2⟩:=Fl hd hp hq nV
  exact(ih (List.Pairwise.sublist h2 hd)).trans h2
theorem qYq {k}(hk:100<k){B}(h:yA B)(m:List zC)(hm:m.length≤1000) p cE bW:∀c i n,i+c=m.length→c<n→
  Fm k n cE bW m.length i B.1 B.2.1 B.2.2.1 B.2.2.2 0 0 0 0 0 0 0 0 0 0 0 0 0 0 m p.1 p.2.1 p.2.2.1 p.2.2.2.1 p.2.2.2.2.1 p.2.2.2.2.2.1 p.2.2.2.2.2.2 = some (match nU k B p (m.drop i) with
   |some (q,C)=>.inr (true,p.1,p.2.1,p.2.2.1,p.2.2.2.1,p.2.2.2.2.1,p.2.2.2.2.2.1,p.2.2.2.2.2.2,q.1,q.2.1,q.2.2.1,q.2.2.2.1,q.2.2.2.2.1,q.2.2.2.2.2.1,q.2.2.2.2.2.2,C.1,C.2.1,C.2.2.1,C.2.2.2)
   |none=>.inl (cE,bW,B.1,B.2.1,B.2.2.1,B.2.2.2,0,0,0,0,0,0,0,0,0,0,0,0,0,0,m))
 |0,i,n,e,hn=>by
  obtain⟨n,rfl⟩:∃x,n=x+1:=⟨n-1,by omega⟩
  have:i=m.length:=by omega
  subst this
  show Ba k _ cE bW m.length m.length B.1 B.2.1 B.2.2.1 B.2.2.2 0 0 0 0 0 0 0 0 0 0 0 0 0 0 m p.1 p.2.1 p.2.2.1 p.2.2.2.1 p.2.2.2.2.1 p.2.2.2.2.2.1 p.2.2.2.2.2.2=_
  unfold Ba
  simp
  rfl
 |c+1,i,n,e,hn=>by
  obtain⟨n,rfl⟩:∃x,n=x+1:=⟨n-1,by omega⟩
  have hi:i<m.length:=by omega
  have ih:=qYq hk h m hm p cE bW c (i+1) n (by omega) (by omega)
  show Ba k _ cE bW m.length i B.1 B.2.1 B.2.2.1 B.2.2.2 0 0 0 0 0 0 0 0 0 0 0 0 0 0 m p.1 p.2.1 p.2.2.1 p.2.2.2.1 p.2.2.2.2.1 p.2.2.2.2.2.1 p.2.2.2.2.2.2=_
  unfold Ba
  obtain⟨r,h1,h2,h3⟩:=Jq hk h (l:=[p,m.getD i pd]) (by simp)
  have hf:=yI2 hk h (l:=[p,m.getD i pd]) (by simp)
  have fJ:mC k B.1 B.2.1 B.2.2.1 B.2.2.2 [(p.1,p.2.1,p.2.2.1,p.2.2.2.1,p.2.2.2.2.1,p.2.2.2.2.2.1,p.2.2.2.2.2.2),m.getD i (0,(0,(0,(0,(0,(0,0))))))]=some r:=h1
  have cT:uN k B.1 B.2.1 B.2.2.1 B.2.2.2 [(p.1,p.2.1,p.2.2.1,p.2.2.2.1,p.2.2.2.2.1,p.2.2.2.2.2.1,p.2.2.2.2.2.2),m.getD i (0,(0,(0,(0,(0,(0,0))))))]=some (uS B [p,m.getD i pd]):=hf
  simp only[qK,qM hi (by grind),qI,aH,ah hi]
  rw[yYq k B p hi]
  unfold nT
  cases decide ((m.getD i pd).2.1=p.2.2.1) with
  |false=>exact ih
  |true=>
   cases decide ((m.getD i pd).2.2.1=p.2.1) with
   |false=>exact ih
   |true=>
    cases decide (p.2.1≥(m.getD i pd).2.1) with
    |true=>exact ih
    |false=>
     unfold gD
     grind
theorem qZu {k}(hk:100<k){B}(h:yA B)(m:List zC)(hm:m.length≤1000)(hmk:m.length<k):∀c i n,i+c=m.length→c<n→
  Fo k n m.length i B.1 B.2.1 B.2.2.1 B.2.2.2 0 0 0 0 0 0 0 0 0 0 0 0 0 0 m = some (match sv k B m (m.drop i) with
   |some (p,q,C)=>.inr (true,p.1,p.2.1,p.2.2.1,p.2.2.2.1,p.2.2.2.2.1,p.2.2.2.2.2.1,p.2.2.2.2.2.2,q.1,q.2.1,q.2.2.1,q.2.2.2.1,q.2.2.2.2.1,q.2.2.2.2.2.1,q.2.2.2.2.2.2,C.1,C.2.1,C.2.2.1,C.2.2.2)
   |none=>.inl (0,0,0,0,0,0,0,0,0,0,0,0,0,0))
 |0,i,n,e,hn=>by
  obtain⟨n,rfl⟩:∃x,n=x+1:=⟨n-1,by omega⟩
  have:i=m.length:=by omega
  subst this
  show Bb k _ m.length m.length B.1 B.2.1 B.2.2.1 B.2.2.2 0 0 0 0 0 0 0 0 0 0 0 0 0 0 m=_
  unfold Bb
  simp
  rfl
 |c+1,i,n,e,hn=>by
  obtain⟨n,rfl⟩:∃x,n=x+1:=⟨n-1,by omega⟩
  have hi:i<m.length:=by omega
  have ih:=qZu hk h m hm hmk c (i+1) n (by omega) (by omega)
  show Bb k _ m.length i B.1 B.2.1 B.2.2.1 B.2.2.2 0 0 0 0 0 0 0 0 0 0 0 0 0 0 m=_
  unfold Bb
  have eM:=qYq hk h m hm (m.getD i pd) m.length i m.length 0 k (by omega) hmk
  have e0:((0:Nat):Int)=0:=rfl
  rw[e0,List.drop_zero] at eM
  simp only[qK,qI,aH,ah hi]
  rw[eM]
  rw[yO9 k B m hi]
  cases nU k B (m.getD i (0,(0,(0,(0,(0,(0,0))))))) m with
  |none=>
   simp[qM hi (by grind)]
   exact ih
  |some x=>rfl
def PM (x:Option (zC×zC×BT)):Int×Int×Int×Int×Int×Int×Int×Int×Int×Int×Int×Int×Int×Int×(List (Int×Int×Int))×EQ×AC×EQ×Bool:=match x with
 |some (p,q,C)=>(p.1,p.2.1,p.2.2.1,p.2.2.2.1,p.2.2.2.2.1,p.2.2.2.2.2.1,p.2.2.2.2.2.2,q.1,q.2.1,q.2.2.1,q.2.2.2.1,q.2.2.2.2.1,q.2.2.2.2.2.1,q.2.2.2.2.2.2,C.1,C.2.1,C.2.2.1,C.2.2.2,true)
 |none=>(0,0,0,0,0,0,0,0,0,0,0,0,0,0,[],[],[],[],false)
theorem vEh {k}(hk:100<k){B}(h:yA B){l}(cp:l.length<k)(hl:yZ l)(hd:qQ l) t:Jv k B.1 B.2.1 B.2.2.1 B.2.2.2 l t=some (PM (eH k B l t)):=by
 unfold Jv eH
 rw[qQ6 cp hl hd]
 have Js:=qT4 l t
 unfold yZ at hl
 have:=qZu hk h (wM l t) (by omega) (by omega) (wM l t).length 0 k (by omega) (by omega)
 have e:((0:Nat):Int)=0:=rfl
 rw[e,List.drop_zero] at this
 simp
 rw[this]
 cases sv k B (wM l t) (wM l t) with
 |none=>rfl
 |some x=>rfl
theorem yZa {k}(hk:3≤k) t (l:List zC)(hl:l.length≤1000)(pw:l.length<k)(C:BT)(r:List zC)(hr:r.length≤900)(p q:zC):
  sw k k t l 2 0 C.1 C.2.1 C.2.2.1 C.2.2.2 r [p,q]=some (t,uU l p q,C.1,C.2.1,C.2.2.1,C.2.2.2,r++[p,q]):=by
 obtain⟨n,rfl⟩:∃n,k=n+3:=⟨k-3,by omega⟩
 have h1:=uP pw (show yZ l from hl) p.1
 have xw:(jV l p.1).length≤l.length:=by
  unfold jV mE
  cases hp:wW l p.1 with
  |none=>simp
  |some x=>exact List.Sublist.length_le (pJ l x)
 have h2:=uP (k:=n+3) (l:=jV l p.1) (by omega) (show(jV l p.1).length≤1000 by omega) q.1
 have e1:zU (r.length+1) 56=true:=sj (by omega)
 have e2:zU ((r++[p]).length+1) 56=true:=sj (by grind)
 show sA (n+3) (sw (n+3) (n+2)) t l 2 0 C.1 C.2.1 C.2.2.1 C.2.2.2 r [p,q]=_
 unfold sA
 have g0:[p,q].getD (Int.toNat 0) (0,(0,(0,(0,(0,(0,0))))))=p:=rfl
 have b0:zD 0 [p,q].length=true:=rfl
 have d0:decide ((0:Int)<2)=true:=rfl
 have w0:zA (0+1)=1:=by decide
 rw[d0,b0,g0,h1]
 simp[e1]
 show sA (n+3) (sw (n+3) (n+1)) t (jV l p.1) 2 1 C.1 C.2.1 C.2.2.1 C.2.2.2 (r++[p]) [p,q]=_
 unfold sA
 have g1:[p,q].getD (Int.toNat 1) (0,(0,(0,(0,(0,(0,0))))))=q:=rfl
 have b1:zD 1 [p,q].length=true:=rfl
 have d1:decide ((1:Int)<2)=true:=rfl
 have w1:zA (1+1)=2:=by decide
 rw[d1,b1,g1,h2]
 simp only[e2]
 show sA (n+3) (sw (n+3) n) t (uU l p q) 2 2 C.1 C.2.1 C.2.2.1 C.2.2.2 (r++[p]++[q]) [p,q]=_
 unfold sA
 simp
theorem qSr {k}(hk:100<k) t:∀n B (l r:List zC),yA B→qQ l→l.length≤100→l.length<n→r.length+l.length≤900→
  ∃(C:BT) (m done:List zC),Fp k n t l B.1 B.2.1 B.2.2.1 B.2.2.2 r=some (m,C.1,C.2.1,C.2.2.1,C.2.2.2,r++done)∧jT k t B l done C m∧yA C∧C.1.length=B.1.length∧List.Sublist m l
 |n+1,B,l,r,hb,hd,hl,hn,hr=>by
  have h1:=vEh hk hb (l:=l) (by omega) (by show l.length≤1000;omega) hd t
  cases hx:eH k B l t with
  |none=>
   rw[hx] at h1
   refine⟨B,l,[],?_,.stop hx,hb,rfl,by simp⟩
   show Bc k _ t l B.1 B.2.1 B.2.2.1 B.2.2.2 r=_
   unfold Bc
   rw[h1]
   simp only[aj,PM,dJ,ao,List.append_nil]
  |some x=>
   obtain⟨p,q,C⟩:=x
   obtain⟨hp,hq,nV,hg⟩:=Fk hx
   obtain⟨xw,ng⟩:=Fl hd hp hq nV
   obtain⟨uv,bU⟩:=su hk hb (by simp) hg
   obtain⟨D,m,done,g1,g3,g4,g5,g6⟩:=qSr hk t n C (uU l p q) (r++[p,q]) uv (List.Pairwise.sublist ng hd) (by omega) (by omega) (by grind)
   refine⟨D,m,p::q::done,?_,.step hx g3,g4,by grind,g6.trans ng⟩
   show Bc k _ t l B.1 B.2.1 B.2.2.1 B.2.2.2 r=_
   unfold Bc
   rw[h1]
   have hL:=yZa (k:=k) (by omega) t l (by omega) (by omega) C r (by omega) p q
   simp only[PM,an]
   simp_all
theorem yVh {k}(hk:200≤k){B}(hb:yA B){l}(hd:qQ l)(hl:l.length≤100) t:
  ∃(C:BT) (m done:List zC),Jw k B.1 B.2.1 B.2.2.1 B.2.2.2 l t=some (C.1,C.2.1,C.2.2.1,C.2.2.2,m,done)∧jT k t B l done C m∧yA C∧C.1.length=B.1.length∧List.Sublist m l:=by
 obtain⟨C,m,done,h1,h3⟩:=qSr (show 100<k by omega) t k B l [] hb hd hl (by omega) (by grind)
 refine⟨C,m,done,?_,h3⟩
 unfold Jw
 simp_all
def jK (l:List zC)(f:Int):Nat:=(l.filter (jD f)).length
def sB (l:List zC)(many:AC)(i:Nat):Bool:=
 (decide ((l.getD i pd).2.1≥0)&&decide ((l.getD i pd).2.1<(many.length:Int)))&&decide (((jK (l.take i) (l.getD i pd).2.1:Nat):Int)<many.getD (l.getD i pd).2.1.toNat 0)
def lI (l:List zC)(many:AC):Nat→List zC
 |0=>[]
 |i+1=>lI l many i++(bif sB l many i then[l.getD i pd] else[])
def wD (l:List zC)(many:AC):List zC:=lI l many l.length
theorem yAy l many:∀N,N≤l.length→List.Sublist (lI l many N) (l.take N)
 |0,_=>by simp[lI]
 |N+1,h=>by
  rw[←dK l N pd h]
  apply List.Sublist.append (yAy l many N (by omega))
  grind
theorem Bd l many:List.Sublist (wD l many) l:=by
 have:=yAy l many l.length (by simp)
 rwa [List.take_length] at this
def pO (v w:AC):Prop:=v.length=w.length∧∀i,i<w.length→v.getD i 0≤w.getD i 0
def eX (B:BT)(l:List zC):AC:=uI B.1 B.2.1 B.2.2.1 B.2.2.2 l
def dr (s:AC)(m:AC):AC:=s.foldl (fun m i=>m.set i.toNat (m.getD i.toNat 0-1)) m
theorem uV:∀s m,(dr s m).length=m.length
 |[],_=>rfl
 |i::s,m=>by
  show(dr s (m.set i.toNat (m.getD i.toNat 0-1))).length=_
  rw[uV s,List.length_set]
theorem yB5:∀(s:List Nat) m,s.Nodup→(∀i∈s,i<m.length)→∀j,(dr (s.map fun(x:Nat)=>(x:Int)) m).getD j 0=m.getD j 0-(if j∈s then 1 else 0)
 |[],m,_,_,j=>by simp[dr]
 |i::s,m,hs,hi,j=>by
  show(dr (s.map fun(x:Nat)=>(x:Int)) (m.set ((i:Int)).toNat (m.getD ((i:Int)).toNat 0-1))).getD j 0=_
  rw[aH,yB5 s _ (by grind) (by grind),jH]
  grind
def pP (B:BT)(l:List zC)(i:Nat):Bool:=jz B.1 B.2.1 B.2.2.1 B.2.2.2 l i
theorem yGz B l {m}(hm:m.length=B.1.length) j:(dr (eX B l) m).getD j 0=m.getD j 0-(if j<B.1.length∧pP B l j=true then 1 else 0):=by
 have:=yB5 ((List.range B.1.length).filter fun i=>pP B l i) m (List.Nodup.sublist List.filter_sublist (by grind)) (by grind) j
 unfold eX uI
 rw[show(fun i=>jz B.1 B.2.1 B.2.2.1 B.2.2.2 l i)=fun i=>pP B l i from rfl,this]
 simp
theorem yRv {B l}:eX B l=[]↔∀j,j<B.1.length→pP B l j=false:=by
 unfold eX uI
 rw[List.map_eq_nil_iff,List.filter_eq_nil_iff]
 constructor
 ·intro h j hj
  have:=h j (by grind)
  simpa[pP] using this
 ·intro h i hi
  have:=h i (by grind)
  simpa[pP] using this
theorem yL8 {l many p}:∀{N},p∈lI l many N→∃i,i<N∧l.getD i pd=p∧sB l many i=true
 |N+1,h=>by
  unfold lI at h
  rw[List.mem_append] at h
  rcases h with h|h
  ·obtain⟨i,h1,h2⟩:=yL8 h
   grind
  grind
theorem yWd {B l}(hl:∀q∈l,yP B.1.length q){m j}(h:pP B (wD l m) j=true):1≤m.getD j 0:=by
 unfold pP jz at h
 rw[bH,Bool.not_eq_true'] at h
 have hn:=yHq (n:=B.1.length) (l:=wD l m) (fun q hq=>hl q ((Bd l m).subset hq)) j
 rw[h.1] at hn
 obtain⟨x,hx,he⟩:=I6.1 hn
 obtain⟨i,h1,h2,h3⟩:=yL8 (jW (d:=pd) hx)
 unfold sB at h3
 have h2':(l.getD i pd)=(wD l m).getD x pd:=h2
 grind
inductive j3 (B:BT) (l:List zC):AC→AC→Nat→Prop
 |stop {m:AC} (h:eX B (wD l m)=[]):j3 B l m m 0
 |step {m f:AC} {n:Nat} (h:eX B (wD l m)≠[]) (h':j3 B l (dr (eX B (wD l m)) m) f n):j3 B l m f (n+1)
theorem yQd {B l m}(hm:m.length=B.1.length):pO (dr (eX B l) m) m:=by
 refine⟨uV _ _,fun i hi=>?_⟩
 rw[yGz B l hm]
 omega
theorem pO.trans {u v w}(h:pO u v)(h':pO v w):pO u w:=⟨h.1.trans h'.1,fun i hi=>Int.le_trans (h.2 i (by have:=h'.1;omega)) (h'.2 i hi)⟩
theorem pO.refl v:pO v v:=⟨rfl,by simp⟩
theorem j3.le {B l m f n}(h:j3 B l m f n)(hm:m.length=B.1.length):pO f m:=by
 induction h with
 |stop _=>exact pO.refl _
 |step _ _ ih=>exact(ih ((uV _ _).trans hm)).trans (yQd hm)
theorem j3.final {B l m f n}(h:j3 B l m f n):eX B (wD l f)=[]:=by
 induction h with
 |stop h=>exact h
 |step _ _ ih=>exact ih
def nW (m:AC):Prop:=∀i,0≤m.getD i 0
theorem PN {B l}(hl:∀q∈l,yP B.1.length q){m}(hm:m.length=B.1.length)(h0:nW m):nW (dr (eX B (wD l m)) m):=by
 intro i
 rw[yGz B _ hm]
 have:=h0 i
 split
 ·rename_i c
  have:=yWd hl c.2
  omega
 ·omega
theorem j3.nonneg {B l}(hl:∀q∈l,yP B.1.length q){m f n}(h:j3 B l m f n)(hm:m.length=B.1.length)(h0:nW m):nW f:=by
 induction h with
 |stop _=>exact h0
 |step _ _ ih=>exact ih ((uV _ _).trans hm) (PN hl hm h0)
def j4 (m:AC):Int:=zL (fun x=>x) m
theorem yAc:∀m i x,i<m.length→j4 (m.set i x)=j4 m-m.getD i 0+x
 |y::m,0,x,_=>by
  show x+j4 m=y+j4 m-y+x
  omega
 |y::m,i+1,x,h=>by
  show y+j4 (m.set i x)=y+j4 m-m.getD i 0+x
  rw[yAc m i x (by simp_all)]
  omega
theorem yJ0:∀s m,(∀i∈s,0≤i∧i<(m.length:Int))→j4 (dr s m)=j4 m-s.length
 |[],m,_=>by simp[dr]
 |i::s,m,h=>by
  have hi:=h i (by simp)
  show j4 (dr s (m.set i.toNat (m.getD i.toNat 0-1)))=_
  rw[yJ0 s _ (by grind),yAc _ _ _ (by omega)]
  grind
theorem qSj {B l}:∀i∈eX B l,0≤i∧i<(B.1.length:Int):=by
 intro i hi
 obtain⟨x,hx,rfl⟩:=List.mem_map.1 hi
 simp_all
theorem yCk:∀{m},nW m→0≤j4 m
 |[],_=>Int.le_refl 0
 |x::m,h=>by
  have h1:0≤x:=h 0
  have h2:=yCk (m:=m) (fun i=>h (i+1))
  show 0≤x+j4 m
  omega
theorem yAm {B l}(hl:∀q∈l,yP B.1.length q):∀(N:Nat) m,m.length=B.1.length→nW m→j4 m≤N→∃f n,j3 B l m f n∧n≤N
 |N,m,hm,h0,hN=>by
  by_cases c:eX B (wD l m)=[]
  ·exact⟨m,0,.stop c,by simp⟩
  ·have ht:=yJ0 (eX B (wD l m)) m (by rw[hm];exact qSj)
   have hp:0<(eX B (wD l m)).length:=by grind
   have h1:=PN hl hm h0
   have h2:=yCk h1
   obtain⟨N,rfl⟩:∃x,N=x+1:=⟨N-1,by omega⟩
   obtain⟨f,n,h3,h4⟩:=yAm hl N _ ((uV _ _).trans hm) h1 (by omega)
   exact⟨f,n+1,.step c h3,by omega⟩
theorem qYk l many:∀N,(lI l many N).length≤N
 |0=>Nat.le_refl _
 |N+1=>by
  unfold lI
  have:=qYk l many N
  grind
theorem vEz (l:List zC) i (hi:i<l.length) f:jK (l.take (i+1)) f=jK (l.take i) f+(if(l.getD i pd).2.1=f then 1 else 0):=by
 unfold jK
 rw[E2 _ _ _ pd hi,List.length_append]
 unfold jD
 grind
def gE (l:List zC)(n:Nat):AC:=(List.range n).map fun(i:Nat)=>((jK l i:Nat):Int)
theorem vB0 l i:gE l (i+1)=gE l i++[((jK l i:Nat):Int)]:=by
 unfold gE
 rw[List.range_succ,List.map_append];rfl
theorem Be l n:(gE l n).length=n:=by
 unfold gE;simp
theorem PO:∀s m i,m.getD i 0-s.length≤(dr s m).getD i 0∧(dr s m).getD i 0≤m.getD i 0
 |[],m,i=>by simp[dr]
 |x::s,m,i=>by
  have h:=PO s (m.set x.toNat (m.getD x.toNat 0-1)) i
  rw[jH] at h
  have e:dr (x::s) m=dr s (m.set x.toNat (m.getD x.toNat 0-1)):=rfl
  rw[e,List.length_cons]
  by_cases c:x.toNat=i∧x.toNat<m.length
  ·grind
  omega
theorem vJl (s m:AC) i (hi:i<s.length):dr (s.take (i+1)) m=(dr (s.take i) m).set (s.getD i 0).toNat ((dr (s.take i) m).getD (s.getD i 0).toNat 0-1):=by
 unfold dr
 rw[←dK s i 0 hi,List.foldl_append]
 rfl
theorem qZh g:∀n,zL (fun x=>x) ((List.range n).map g)=qG g n
 |0=>rfl
 |n+1=>by
  rw[List.range_succ,List.map_append,iM,qZh g n]
  show qG g n+(g n+0)=qG g n+g n
  omega
theorem vD6 l f:((jK l f:Nat):Int)=zL (fun p:zC=>if p.2.1=f then 1 else 0) l:=by
 induction l with
 |nil=>rfl
 |cons p l ih=>
  unfold jK jD at*
  show _=(if p.2.1=f then(1:Int) else 0)+zL _ l
  grind
theorem ySq l n:j4 (gE l n)≤l.length:=by
 unfold j4 gE
 rw[qZh (fun i:Nat=>((jK l i:Nat):Int)) n,mv (h:=fun j=>zL (fun p:zC=>if p.2.1=(j:Int) then 1 else 0) l) (fun j _=>vD6 l j),Ii]
 have := (yi (A := 1) (l := l) (g := fun p : zC => qG (fun j => if p.2.1 = (j : Int) then 1 else 0) n) (fun p _=>by
  by_cases c:0≤p.2.1
  ·obtain⟨f,hf⟩:∃f:Nat,p.2.1=f:=⟨p.2.1.toNat,by omega⟩
   have e:qG (fun j=>if p.2.1=(j:Int) then(1:Int) else 0) n=qG (fun j=>if j=f then 1 else 0) n:=by grind
   rw[e,uz]
   omega
  ·have e:qG (fun j=>if p.2.1=(j:Int) then(1:Int) else 0) n=qG (fun _=>0) n:=by grind
   rw[e,Om]
   omega)).2
 omega
theorem yCd l n i:(gE l n).getD i 0=if i<n then((jK l i:Nat):Int) else 0:=by
 unfold gE
 grind
theorem vGs l f:jK l f≤l.length:=List.length_filter_le _ _
theorem PQ {l}(hl:l.length≤1000) n:nW (gE l n)∧∀i,(gE l n).getD i 0≤1000:=by
 refine⟨fun i=>?_,fun i=>?_⟩
 ·rw[yCd];omega
 ·rw[yCd]
  have:=vGs l i
  omega
theorem PR {B:BT}{l}(hl:∀q∈l,yP B.1.length q)(cy:l.length≤64) m:wE B.1.length (wD l m):=
 ⟨fun p hp=>hl p ((Bd l m).subset hp),by have:=(Bd l m).length_le;omega⟩
def wF (l:List zC)(t:Int):List zC:=l.filter (mD t)
theorem Jx {n l t}(h:∀q∈l,yP n q):∀q∈wF l t,yP n q:=fun q hq=>h q (List.mem_filter.1 hq).1
theorem Fq l t:(wF l t).length≤l.length:=List.length_filter_le _ _
theorem qX9 {B}(hb:yA B){l}(hl:∀q∈l,yP B.1.length q)(cy:l.length≤64) t:
  ∃f n,j3 B (wF l t) (gE (wF l t) B.1.length) f n∧n≤(wF l t).length:=by
 have h1:=PQ (l:=wF l t) (by have:=Fq l t;omega) B.1.length
 have h2:=ySq (wF l t) B.1.length
 exact yAm (Jx hl) (wF l t).length _ (Be _ _) h1.1 (by omega)
def nX (l:List zC)(hs:List zC):List zC:=hs.foldl (fun l p=>jV l p.1) l
theorem vHa l id:(jV l id).length≤l.length∧List.Sublist (jV l id) l:=by
 unfold jV mE
 cases wW l id with
 |none=>simp
 |some x=>exact⟨(pJ l x).length_le,pJ l x⟩
theorem PT:∀hs l,(nX l hs).length≤l.length∧List.Sublist (nX l hs) l
 |[],l=>⟨Nat.le_refl _,List.Sublist.refl _⟩
 |p::hs,l=>by
  obtain⟨h1,h2⟩:=PT hs (jV l p.1)
  obtain⟨h3,h4⟩:=vHa l p.1
  exact⟨Nat.le_trans h1 h3,h2.trans h4⟩
theorem yVn (l hs:List zC) i (hi:i<hs.length):nX l (hs.take (i+1))=jV (nX l (hs.take i)) (hs.getD i pd).1:=by
 unfold nX
 rw[←dK hs i pd hi,List.foldl_append]
 rfl
def Jy (B:BT)(l hs:List zC)(r:List qR×EQ×AC×EQ×Int):(List (Int×Int×Int))×EQ×AC×EQ×(List zC)×(List zC):=
 bif !(decide (r.2.2.2.2=0)) then(B.1,B.2.1,B.2.2.1,B.2.2.2,l,[]) else(r.1,r.2.1,r.2.2.1,r.2.2.2.1,nX l hs,hs)
theorem PU {k:Nat}{l:List zC}(hk:l.length<k)(hl:yZ l){many:AC}(h0:nW many)(hm:∀i,many.getD i 0≤1000)(Js:many.length≤1000):Bf k l many=some (wD l many):=by
 unfold yZ at hl
 unfold Bf PV PW
 rw[qX (by omega) (by omega)]
 simp only[ao,aj]
 obtain ⟨s', h1, h2, h3, h4⟩ := wC (L := fun n i (s : AC × List zC) => Bg k n l l.length i s.1 s.2) (N := l.length) (fun s => s) (fun i s => s.1.length = many.length ∧ (∀ f : Nat, f < many.length → s.1.getD f 0 = if many.getD f 0 ≤ (jK (l.take i) f : Nat) then 0 else many.getD f 0 - (jK (l.take i) f : Nat)) ∧ s.2 = lI l many i) (fun n s _=>by
  show Bh k _ l l.length l.length s.1 s.2=_
  unfold Bh
  simp only [qI, ak (Nat.lt_irrefl _), an]) (fun n i s hi hs=>by
  obtain⟨s1,s2,s3⟩:=hs
  have fP:s.2.length≤i:=by rw[s3];exact qYk l many i
  show∃s',Bh k _ l l.length i s.1 s.2=_∧_
  unfold Bh PX
  simp only[qK,qM hi (show l.length<9223372036854775808 by omega),qI,aH,ah hi,ao,sj (show s.2.length≤1000 by omega)]
  have kB:=fun f=>vEz l i hi f
  have DE:∀f:Nat,f<many.length→(l.getD i pd).2.1≠(f:Int)→(if many.getD f 0≤(jK (l.take (i+1)) f:Nat) then(0:Int) else many.getD f 0-(jK (l.take (i+1)) f:Nat))=if many.getD f 0≤(jK (l.take i) f:Nat) then 0 else many.getD f 0-(jK (l.take i) f:Nat):=by
   intro f hf aW
   rw[kB f,if_neg aW,Nat.add_zero]
  have skip:sB l many i=false→(∀f:Nat,f<many.length→(l.getD i pd).2.1=(f:Int)→many.getD f 0≤(jK (l.take i) f:Nat))→(s.1.length=many.length∧(∀f:Nat,f<many.length→s.1.getD f 0=if many.getD f 0≤(jK (l.take (i+1)) f:Nat) then 0 else many.getD f 0-(jK (l.take (i+1)) f:Nat))∧s.2=lI l many (i+1)):=by
   intro hh hz
   refine⟨s1,fun f hf=>?_,?_⟩
   ·by_cases c:(l.getD i pd).2.1=(f:Int)
    ·have:=hz f hf c
     rw[s2 f hf,if_pos this,kB f,if_pos c,if_pos (by omega)]
    ·rw[DE f hf c,s2 f hf]
   ·show _=lI l many i++_
    rw[hh,s3];simp
  cases e1:decide ((l.getD i pd).2.1<0) with
  |true=>
   refine⟨s,rfl,skip ?_ ?_⟩
   ·unfold sB
    rw[bD] at e1
    rw[ak (show¬(l.getD i pd).2.1≥0 by omega)];rfl
   ·intro f hf c
    rw[bD] at e1
    omega
  |false=>
   cases e2:decide ((l.getD i pd).2.1≥((s.1.length:Nat):Int)) with
   |true=>
    refine⟨s,rfl,skip ?_ ?_⟩
    ·unfold sB
     rw[bD] at e2
     rw[ak (show¬(l.getD i pd).2.1<(many.length:Int) by omega),Bool.and_false];rfl
    ·intro f hf c
     rw[bD] at e2
     omega
   |false=>
    rw[decide_eq_false_iff_not] at e1 e2
    obtain⟨f,hf⟩:∃f:Nat,(l.getD i pd).2.1=f:=⟨(l.getD i pd).2.1.toNat,by omega⟩
    have tK:f<many.length:=by omega
    have cT:(l.getD i (0,(0,(0,(0,(0,(0,0))))))).2.1=f:=hf
    simp only[an,cT,qK,aH,s1,ah tK,ao]
    have tP:sB l many i=decide (((jK (l.take i) f:Nat):Int)<many.getD f 0):=by
     unfold sB
     rw[hf,ah (show(f:Int)≥0 by omega),ah (show(f:Int)<(many.length:Int) by omega),aH]
     rfl
    have iO:=s2 f tK
    cases e3:decide (s.1.getD f 0<1) with
    |true=>
     rw[bD,iO] at e3
     have hle:many.getD f 0≤(jK (l.take i) f:Nat):=by
      by_cases c:many.getD f 0≤(jK (l.take i) f:Nat)
      ·exact c
      ·rw[if_neg c] at e3;omega
     refine⟨s,rfl,skip (by rw[tP];exact ak (by omega)) ?_⟩
     intro g hg c
     have:g=f:=by omega
     subst this
     exact hle
    |false=>
     rw[decide_eq_false_iff_not] at e3
     have hgt:¬many.getD f 0≤(jK (l.take i) f:Nat):=by
      intro c
      rw[iO,if_pos c] at e3
      omega
     rw[if_neg hgt] at iO
     have kG:=hm f
     have hw:zA (s.1.getD f 0-1)=s.1.getD f 0-1:=qL (by omega) (by omega)
     refine⟨(s.1.set f (s.1.getD f 0-1),s.2++[l.getD i pd]),?_,?_,?_,?_⟩
     ·simp only[an,aj,ao,hw]
     ·rw[List.length_set];exact s1
     ·intro g hg
      rw[jH]
      by_cases c:f=g
      ·subst c
       rw[if_pos ⟨rfl,by omega⟩,kB f,if_pos hf,iO]
       by_cases d:many.getD f 0≤((jK (l.take i) f+1:Nat):Int)
       ·rw[if_pos d];omega
       ·rw[if_neg d];omega
      ·rw[if_neg (fun e=>c e.1),DE g hg (by omega)]
       exact s2 g hg
     ·show s.2++[l.getD i pd]=lI l many i++_
      rw[tP,ah (by omega),s3];rfl) (s:=(many,[])) hk ⟨rfl,fun f hf=>by
   have:(jK (l.take 0) f:Nat)=0:=rfl
   have h0f:=h0 f
   rw[this]
   by_cases c:many.getD f 0≤((0:Nat):Int)
   ·rw[if_pos c]
    show many.getD f 0=0
    omega
   ·rw[if_neg c]
    show many.getD f 0=_
    omega,rfl⟩
 have fJ:Bg k k l l.length 0 many []=some s':=h1
 rw[fJ]
 simp only[aj,h4]
 rfl
theorem qTf {k:Nat}{l:List zC}(hk:l.length<k)(hl:yZ l)(f:Int):Fs k l f=some (l.filter (jD f)):=by
 unfold Fs PY
 have := yHs pd (L := fun n i s => Ft k n l l.length i f s) (jD f) id (fun n s=>by
  show Bi k _ l l.length l.length f s=_
  unfold Bi
  simp only [qI, ak (Nat.lt_irrefl _), an]; rfl) (fun n i s hi hs=>by
  show Bi k _ l l.length i f s=_
  unfold Bi PZ
  unfold yZ at hl
  simp only[qK,qM hi (show l.length<9223372036854775808 by omega),qI,aH,ah hi,ao,sj (show s.length≤1000 by omega)]
  unfold jD
  cases h1:decide ((l.getD i pd).2.1=f)<;>rfl) hk
 rw[this]
 rfl
theorem vBd {k:Nat}{B:BT}{l:List zC}(hk:l.length<k)(hl:yZ l)(hn:B.1.length<k)(hn':B.1.length≤1000)(s7:Int):
  uW k k s7 B.1.length 0 B.1 B.2.1 B.2.2.1 B.2.2.2 [] l=some (s7,B.1,B.2.1,B.2.2.1,B.2.2.2,gE l B.1.length,l):=by
 obtain ⟨s', h1, h2⟩ := wC (L := fun n i (s : AC) => uW k n s7 B.1.length i B.1 B.2.1 B.2.2.1 B.2.2.2 s l) (N := B.1.length) (fun s => (s7, B.1, B.2.1, B.2.2.1, B.2.2.2, s, l)) (fun i s => s = gE l i) (fun n s _=>by
  show Bj k _ s7 B.1.length B.1.length B.1 B.2.1 B.2.2.1 B.2.2.2 s l=_
  unfold Bj
  simp only [qI, ak (Nat.lt_irrefl _), an]) (fun n i s hi hs=>by
  refine⟨_,?_,(vB0 l i).symm⟩
  show Bj k _ s7 B.1.length i B.1 B.2.1 B.2.2.1 B.2.2.2 s l=_
  unfold Bj
  have hr:zU (s.length+1) 8=true:=by rw[hs,Be];exact qX (by omega) (by omega)
  simp only[qI,ah hi,ao,qTf hk hl,aj,hr,qM hi (show B.1.length<9223372036854775808 by omega)]
  rw[hs]
  rfl) (s:=[]) hn rfl
 exact h1.trans (by rw[h2])
theorem yUk {k:Nat}{B:BT}{l:List zC}{s m:AC}(hk:s.length<k)(hs:s.length≤1000)(eM:∀x∈s,0≤x∧x<(m.length:Int))(h0:nW m)(hm:∀i,m.getD i 0≤1000)(s7:Int):
  Bk k k s7 s.length 0 B.1 B.2.1 B.2.2.1 B.2.2.2 m l s=some (s7,B.1,B.2.1,B.2.2.1,B.2.2.2,dr s m,l):=by
 obtain ⟨s', h1, h2⟩ := wC (L := fun n i (r : AC) => Bk k n s7 s.length i B.1 B.2.1 B.2.2.1 B.2.2.2 r l s) (N := s.length) (fun r => (s7, B.1, B.2.1, B.2.2.1, B.2.2.2, r, l)) (fun i r => r = dr (s.take i) m) (fun n r _=>by
  show Bl k _ s7 s.length s.length B.1 B.2.1 B.2.2.1 B.2.2.2 r l s=_
  unfold Bl
  simp only [qI, ak (Nat.lt_irrefl _), an]) (fun n i r hi hr=>by
  refine⟨_,?_,(vJl s m i hi).symm⟩
  show Bl k _ s7 s.length i B.1 B.2.1 B.2.2.1 B.2.2.2 r l s=_
  unfold Bl
  obtain⟨b1,b2⟩:=eM _ (jW (d:=0) hi)
  have xC:r.length=m.length:=by rw[hr,uV]
  have hb:zD (s.getD i 0) r.length=true:=eT b1 (by omega)
  have ZY:=PO (s.take i) m (s.getD i 0).toNat
  have HK:=h0 (s.getD i 0).toNat
  have kG:=hm (s.getD i 0).toNat
  have aS:(s.take i).length≤s.length:=List.length_take_le' _ _
  have hw:zA (r.getD (s.getD i 0).toNat 0-1)=r.getD (s.getD i 0).toNat 0-1:=by
   rw[hr]
   exact qL (by omega) (by omega)
  simp only[qI,qK,aH,ah hi,ao,hb,hw,qM hi (show s.length<9223372036854775808 by omega)]
  rw[hr]) (s:=m) hk rfl
 have:=h1.trans (by rw[h2,List.take_length])
 exact this
theorem vKb {k:Nat}(hk:100<k){B:BT}(hb:yA B){l:List zC}(hl:∀q∈l,yP B.1.length q)(cy:l.length≤64){m f:AC}{n:Nat}(h:j3 B l m f n):
  ∀(N:Nat) (s7:Int),m.length=B.1.length→nW m→(∀i,m.getD i 0≤1000)→n<N→0≤s7→s7+n<1000000→
  Fu k N s7 B.1 B.2.1 B.2.2.1 B.2.2.2 m l=some (s7+n+1,f):=by
 induction h with
 |@stop m h=>
  intro N s7 hm h0 h1 hn hs xN
  obtain⟨N,rfl⟩:∃x,N=x+1:=⟨N-1,by omega⟩
  have lJ:=hb.n6
  show Bm k _ s7 B.1 B.2.1 B.2.2.1 B.2.2.2 m l=_
  unfold Bm
  have hS:=Pc hk hb (PR hl cy m)
  have oR:uM k B.1 B.2.1 B.2.2.1 B.2.2.2 (wD l m)=some (eX B (wD l m)):=hS
  rw[PU (by omega) (show yZ l by show l.length≤1000;omega) h0 h1 (by omega)]
  simp only[aj]
  rw[oR,h]
  simp only[aj]
  have w:zA (s7+1)=s7+1:=qL (by omega) (by omega)
  rw[w]
  simp
 |@step m f n h h' ih=>
  intro N s7 hm h0 h1 hn hs xN
  obtain⟨N,rfl⟩:∃x,N=x+1:=⟨N-1,by omega⟩
  have lJ:=hb.n6
  show Bm k _ s7 B.1 B.2.1 B.2.2.1 B.2.2.2 m l=_
  unfold Bm
  have hS:=Pc hk hb (PR hl cy m)
  have oR:uM k B.1 B.2.1 B.2.2.1 B.2.2.2 (wD l m)=some (eX B (wD l m)):=hS
  rw[PU (by omega) (show yZ l by show l.length≤1000;omega) h0 h1 (by omega)]
  simp only[aj]
  rw[oR]
  simp only[aj]
  have w:zA (s7+1)=s7+1:=qL (by omega) (by omega)
  have aW : decide ((((eX B (wD l m)).length : Nat) : Int) = 0) = false := ak (by
   have:=List.length_pos_iff.2 h
   omega)
  have fP:(eX B (wD l m)).length≤B.1.length:=by
   unfold eX uI
   rw[List.length_map]
   have:=List.length_filter_le (fun i=>jz B.1 B.2.1 B.2.2.1 B.2.2.2 (wD l m) i) (List.range B.1.length)
   rwa [List.length_range] at this
  rw[aW,w]
  simp only[an]
  rw[yUk (by omega) (by omega) (by rw[hm];exact qSj) h0 h1]
  simp only[aj]
  have hd0:=PN hl hm h0
  have:=ih N (s7+1) ((uV _ _).trans hm) hd0 (fun i=>by have:=(PO (eX B (wD l m)) m i).2;have:=h1 i;omega) (by omega) (by omega) (by omega)
  rw[this]
  congr 2
  omega
theorem yQu {k:Nat}(hk:100<k){B:BT}(hb:yA B){l:List zC}(hl:∀q∈l,yP B.1.length q)(cy:l.length≤64)(t:Int){f:AC}{n:Nat}(hn:n≤l.length)(h:j3 B (wF l t) (gE (wF l t) B.1.length) f n):
  Jz k B.1 B.2.1 B.2.2.1 B.2.2.2 l t=some (f,((n+1:Nat):Int)):=by
 have lJ:=hb.n6
 have hr:=Fq l t
 have h1:=PQ (l:=wF l t) (by omega) B.1.length
 unfold Jz
 rw[Pf (by omega) (by show l.length≤1000;omega)]
 simp only[aj]
 have e:uW k k 0 B.1.length 0 B.1 B.2.1 B.2.2.1 B.2.2.2 [] (l.filter (mD t))=_:=vBd (k:=k) (B:=B) (l:=wF l t) (by omega) (by show(wF l t).length≤1000;omega) (by omega) (by omega) 0
 rw[e]
 simp only[aj]
 rw[vKb hk hb (Jx hl) (by omega) h k 0 (Be _ _) h1.1 h1.2 (by omega) (by omega) (by omega)]
 simp
theorem vH4 {k:Nat}{C:BT}{l hs:List zC}(hl:l.length<k)(fm:l.length≤1000)(hk:hs.length<k)(hh:hs.length≤1000):
  uX k k l hs.length 0 C.1 C.2.1 C.2.2.1 C.2.2.2 hs=some (nX l hs,C.1,C.2.1,C.2.2.1,C.2.2.2,hs):=by
 obtain ⟨s', h1, h2⟩ := wC (L := fun n i (s : List zC) => uX k n s hs.length i C.1 C.2.1 C.2.2.1 C.2.2.2 hs) (N := hs.length) (fun s => (s, C.1, C.2.1, C.2.2.1, C.2.2.2, hs)) (fun i s => s = nX l (hs.take i)) (fun n s _=>by
  show Bn k _ s hs.length hs.length C.1 C.2.1 C.2.2.1 C.2.2.2 hs=_
  unfold Bn
  simp only [qI, ak (Nat.lt_irrefl _), an]) (fun n i s hi hr=>by
  refine⟨_,?_,(yVn l hs i hi).symm⟩
  show Bn k _ s hs.length i C.1 C.2.1 C.2.2.1 C.2.2.2 hs=_
  unfold Bn
  have fP:=(PT (hs.take i) l).1
  rw[←hr] at fP⊢
  simp only[qI,qK,aH,ah hi,ao,uP (show s.length<k by omega) (show yZ s by show s.length≤1000;omega),aj,qM hi (show hs.length<9223372036854775808 by omega)]
  rfl) (s:=l) hk rfl
 have:=h1.trans (by rw[h2,List.take_length])
 exact this
theorem yG6 {k:Nat}(hk:100<k){B:BT}(hb:yA B){l:List zC}(hl:∀q∈l,yP B.1.length q)(cy:l.length≤64)(t:Int){f:AC}{n:Nat}(hn:n≤l.length)(h:j3 B (wF l t) (gE (wF l t) B.1.length) f n)
  {r:List qR×EQ×AC×EQ×Int} (hr:mC k B.1 B.2.1 B.2.2.1 B.2.2.2 (wD (wF l t) f)=some r):Bo k B.1 B.2.1 B.2.2.1 B.2.2.2 l t=some (Jy B l (wD (wF l t) f) r):=by
 have lJ:=hb.n6
 have xC:=Fq l t
 have h1:=PQ (l:=wF l t) (by omega) B.1.length
 have hle:=h.le (Be _ _)
 have h0:=h.nonneg (Jx hl) (Be _ _) h1.1
 have tK:f.length=B.1.length:=hle.1.trans (Be _ _)
 have hf:∀i,f.getD i 0≤1000:=fun i=>by
  by_cases c:i<(gE (wF l t) B.1.length).length
  ·have:=hle.2 i c
   have:=h1.2 i
   omega
  ·rw[List.getD_eq_getElem?_getD,List.getElem?_eq_none (by have:=hle.1;omega)]
   show(0:Int)≤1000
   omega
 have hhl:=(Bd (wF l t) f).length_le
 unfold Bo
 rw[yQu hk hb hl cy t hn h,Pf (by omega) (by show l.length≤1000;omega)]
 simp only[aj]
 have e:Bf k (l.filter (mD t)) f=_:=PU (k:=k) (l:=wF l t) (by omega) (by show(wF l t).length≤1000;omega) h0 hf (by omega)
 rw[e]
 simp only[aj]
 rw[hr]
 simp only[aj]
 unfold Jy
 cases decide (r.2.2.2.2=0) with
 |false=>rfl
 |true=>
  simp only[aQ,an]
  have e2:uX k k l ((List.length (wD (wF l t) f):Nat):Int) 0 r.1 r.2.1 r.2.2.1 r.2.2.2.1 (wD (wF l t) f)=_:=vH4 (C:=(r.1,r.2.1,r.2.2.1,r.2.2.2.1)) (by omega) (by omega) (by omega) (by omega)
  rw[e2]
  rfl
theorem yZ1 {l:List zC}{x:Nat}(hx:x<l.length):List.Perm (l.getD x pd::vE l x) l:=by
 unfold vE
 have h:List.Perm (l.getD x pd::(l.take x++l.drop (x+1))) (l.take x++l.getD x pd::l.drop (x+1)):=List.perm_middle.symm
 have e:=E4 l x pd hx
 rw[←e] at h
 exact h
theorem JA {l:List zC}(hd:qQ l){p:zC}(hp:p∈l):List.Perm (p::jV l p.1) l:=by
 obtain⟨x,hx⟩:=Ja hp
 have h:=lF hx
 have e:l.getD x pd=p:=hd.eq_of (jW h.1) hp h.2
 unfold jV mE
 rw[hx]
 have:=yZ1 h.1
 rw[e] at this
 exact this
theorem fw.perm {k:Nat}{t:Int}{B C:BT}{l done m:List zC}(h:fw k t B l done C m)(hd:qQ l):List.Perm (done++m) l:=by
 induction h with
 |stop _=>exact List.Perm.refl _
 |step h _ ih=>
  have hp:=Fh (A7 h).1
  exact((ih (List.Pairwise.sublist (uT hp).2 hd)).cons _).trans (JA hd hp)
theorem jT.perm {k:Nat}{t:Int}{B C:BT}{l done m:List zC}(h:jT k t B l done C m)(hd:qQ l):List.Perm (done++m) l:=by
 induction h with
 |stop _=>exact List.Perm.refl _
 |step h _ ih=>
  obtain⟨hp,hq,nV,_⟩:=Fk h
  obtain⟨h1,h2⟩:=Fl hd hp hq nV
  have rA:qQ (jV _ _):=List.Pairwise.sublist (uT hp).2 hd
  have lH:=PK hp hq (yDu hd hp hq nV)
  exact(((ih (List.Pairwise.sublist h2 hd)).cons _).cons _).trans (((JA rA lH).cons _).trans (JA hd hp))
theorem fw.final {k:Nat}{t:Int}{B C:BT}{l done m:List zC}(h:fw k t B l done C m):jY k C (wM m t)=none:=by
 induction h with
 |stop h=>exact h
 |step _ _ ih=>exact ih
theorem jT.final {k:Nat}{t:Int}{B C:BT}{l done m:List zC}(h:jT k t B l done C m):eH k C m t=none:=by
 induction h with
 |stop h=>exact h
 |step _ _ ih=>exact ih
theorem qQ.perm {l m:List zC}(h:qQ l)(hp:List.Perm m l):qQ m:=(List.Perm.pairwise_iff (R:=fun p q:zC=>p.1≠q.1) (fun G8=>Ne.symm G8) hp.symm).1 h
inductive kO (k:Nat) (t:Int):BT→List zC→List zC→BT→List zC→Prop
 |stop {B C:BT} {l m d:List zC} (h1:fw k t B l d C m) (h2:eH k C m t=none):kO k t B l d C m
 |step {B C D E:BT} {l m n o d e f:List zC} (h1:fw k t B l d C m) (h2:jT k t C m e D n) (ne:e≠[]) (h':kO k t D n f E o):kO k t B l (d++e++f) E o
theorem kO.perm {k:Nat}{t:Int}{B C:BT}{l done m:List zC}(h:kO k t B l done C m)(hd:qQ l):List.Perm (done++m) l:=by
 induction h with
 |stop h1 _=>exact h1.perm hd
 |@step B C D E l m n o d e f h1 h2 ne h' ih=>
  have p1:=h1.perm hd
  have hd1:=hd.perm p1
  have hm:qQ m:=(List.pairwise_append.1 hd1).2.1
  have p2:=h2.perm hm
  have hn:qQ n:=(List.pairwise_append.1 (hm.perm p2)).2.1
  have p3:=ih hn
  have e1:d++e++f++o=d++(e++(f++o)):=by simp
  rw[e1]
  exact((p3.append_left e).append_left d).trans ((p2.append_left d).trans p1)
theorem kO.final {k:Nat}{t:Int}{B C:BT}{l done m:List zC}(h:kO k t B l done C m):jY k C (wM m t)=none∧eH k C m t=none:=by
 induction h with
 |stop h1 h2=>exact⟨h1.final,h2⟩
 |step _ _ _ _ ih=>exact ih
theorem fw.none {k:Nat}{t:Int}{B C:BT}{l done m:List zC}(h:fw k t B l done C m)(hn:jY k B (wM l t)=none):done=[]∧C=B∧m=l:=by
 cases h with
 |stop _=>exact⟨rfl,rfl,rfl⟩
 |step h _=>rw[hn] at h;cases h
theorem jT.none {k:Nat}{t:Int}{B C:BT}{l done m:List zC}(h:jT k t B l done C m)(hn:eH k B l t=none):done=[]∧C=B∧m=l:=by
 cases h with
 |stop _=>exact⟨rfl,rfl,rfl⟩
 |step h _=>rw[hn] at h;cases h
theorem jT.nil {k:Nat}{t:Int}{B C:BT}{l m:List zC}(h:jT k t B l [] C m):eH k B l t=Option.none∧C=B∧m=l:=by
 cases h with
 |stop h=>exact⟨h,rfl,rfl⟩
theorem kO.none {k:Nat}{t:Int}{B C:BT}{l done m:List zC}(h:kO k t B l done C m)(h1:jY k B (wM l t)=Option.none)(h2:eH k B l t=Option.none):done=[]∧C=B∧m=l:=by
 cases h with
 |stop g1 _=>exact g1.none h1
 |step g1 g2 ne _=>
  obtain⟨rfl,rfl,rfl⟩:=g1.none h1
  obtain⟨rfl,_,_⟩:=g2.none h2
  exact absurd rfl ne
theorem yIb {k:Nat}(hk:200≤k)(t:Int):∀(n:Nat) (B:BT) (l r:List zC),yA B→qQ l→l.length≤100→l.length<n→r.length+l.length≤900→
  ∃(C:BT) (m done:List zC),Fv k n t l B.1 B.2.1 B.2.2.1 B.2.2.2 r=some (m,C.1,C.2.1,C.2.2.1,C.2.2.2,r++done)∧kO k t B l done C m∧yA C∧C.1.length=B.1.length∧List.Sublist m l
 |0,_,_,_,_,_,_,h,_=>absurd h (Nat.not_lt_zero _)
 |n+1,B,l,r,hb,hd,hl,hn,hr=>by
  obtain⟨C,m,d,f1,f2,f3,f4,f5⟩:=yOe hk hb hd hl t
  have p1:=f2.perm hd
  have l1:=p1.length_eq
  rw[List.length_append] at l1
  have hm:qQ m:=List.Pairwise.sublist f5 hd
  obtain⟨D,o,e,g1,g2,g3,g4,g5⟩:=yVh hk f3 hm (by omega) t
  have p2:=g2.perm hm
  have l2:=p2.length_eq
  rw[List.length_append] at l2
  have r1:zU (r.length+d.length) 56=true:=qX (by omega) (by omega)
  have r2:zU ((r++d).length+e.length) 56=true:=qX (by rw[List.length_append];omega) (by rw[List.length_append];omega)
  show∃C' m' aab,JB k _ t l B.1 B.2.1 B.2.2.1 B.2.2.2 r=_∧_
  unfold JB
  rw[f1]
  simp only[aj]
  rw[g1]
  simp only[aj,r1,r2,ao]
  cases e with
  |nil=>
   obtain⟨h1,h2,h3⟩:=g2.nil
   subst h2;subst h3
   refine⟨D,o,d,?_,.stop f2 h1,f3,f4,f5⟩
   simp
  |cons p e=>
   have aS:o.length+(e.length+1)=m.length:=by simp at l2;omega
   obtain⟨E,q,f,k1,k2,k3,k4,k5⟩:=yIb hk t n D o (r++d++(p::e)) g3 (List.Pairwise.sublist g5 hm) (by omega) (by omega) (by simp;omega)
   refine⟨E,q,d++(p::e)++f,?_,.step f2 g2 (by simp) k2,k3,k4.trans (g4.trans f4),k5.trans (g5.trans f5)⟩
   have e1:decide ((((p::e).length:Nat):Int)=0)=false:=ak (by simp;omega)
   rw[e1]
   simp only[an]
   rw[k1]
   simp
theorem JC {k:Nat}(hk:200≤k){B:BT}(hb:yA B){l:List zC}(hd:qQ l)(hl:l.length≤100)(t:Int):
  ∃(C:BT) (m done:List zC),Fw k B.1 B.2.1 B.2.2.1 B.2.2.2 l t=some (C.1,C.2.1,C.2.2.1,C.2.2.2,m,done)∧kO k t B l done C m∧yA C∧C.1.length=B.1.length∧List.Sublist m l:=by
 obtain⟨C,m,done,h1,h3⟩:=yIb hk t k B l [] hb hd hl (by omega) (by simp;omega)
 refine⟨C,m,done,?_,h3⟩
 unfold Fw
 rw[h1]
 rfl
theorem qYt:∀(hs l:List zC),qQ l→qQ hs→(∀q∈hs,q∈l)→List.Perm (hs++nX l hs) l
 |[],l,_,_,_=>List.Perm.refl _
 |p::hs,l,hd,hh,eM=>by
  have hp:=eM p (List.mem_cons_self ..)
  obtain⟨h1,h2⟩:=uT hp
  have hc:=List.pairwise_cons.1 hh
  have:=qYt hs (jV l p.1) (List.Pairwise.sublist h2 hd) hc.2 (fun q hq=>PK hp (eM q (List.mem_cons_of_mem _ hq)) (fun e=>hc.1 q hq e.symm))
  exact(this.cons p).trans (JA hd hp)
theorem yUj {k:Nat}(hk:100<k){B:BT}(hb:yA B):mC k B.1 B.2.1 B.2.2.1 B.2.2.2 []=some (B.1,B.2.1,B.2.2.1,B.2.2.2,0):=by
  obtain⟨r,h1,h3⟩:=IW hk hb (l:=[]) (by simp)
  have aL:wE B.1.length []:=⟨fun p hp=>(by cases hp),by simp⟩
  obtain⟨a',p',h4,h5⟩:=h3.1 aL
  have ab:pH B.1.length B.1 B.2.2.2 [] B.1 B.2.2.2:={
    al:=rfl
    acct:=fun i hi=>by
      have hc:=hb.acct i hi
      have hr:0≤(B.1.getD i ad).2.2:=by
        have:=hb.nums.res i hi
        exact this.1
      show B.1.getD i ad=((B.1.getD i ad).1+0,(B.1.getD i ad).2.1,wJ (B.1.getD i ad).2.2 0)
      have e:wJ (B.1.getD i ad).2.2 0=(B.1.getD i ad).2.2:=by
        unfold wJ
        split<;>omega
      rw[e,Int.add_zero]
    pl:=hb.pl
    pr:=hb.pr
    cell:=fun i hi j hj=>by show _=_+0-0;omega}
  obtain⟨e1,e2⟩:=h4.same ab
  subst e1;subst e2
  rw[IG.2 hb] at h5
  rw[h1,h5]
  rfl
theorem qRf {k:Nat}(hk:200≤k){B:BT}(hb:yA B){l:List zC}(hd:qQ l)(hl:∀q∈l,yP B.1.length q)(cy:l.length≤64)(t:Int):
  ∃(C:BT) (m done:List zC),Bo k B.1 B.2.1 B.2.2.1 B.2.2.2 l t=some (C.1,C.2.1,C.2.2.1,C.2.2.2,m,done)∧yA C∧C.1.length=B.1.length∧List.Sublist m l∧List.Perm (done++m) l∧(done=[]→C=B∧m=l):=by
 obtain⟨f,n,h,hn⟩:=qX9 hb hl cy t
 have xC:=Fq l t
 have cS:=Bd (wF l t) f
 have hhl:=cS.length_le
 obtain⟨r,h1,h2,h3⟩:=Jq (k:=k) (by omega) hb (l:=wD (wF l t) f) (by omega)
 have hs:=Jp hb h3
 have g1:=yG6 (k:=k) (by omega) hb hl cy t (by omega) h h1
 unfold Jy at g1
 cases c:decide (r.2.2.2.2=0) with
 |false=>
  rw[c] at g1
  exact⟨B,l,[],g1,hb,rfl,List.Sublist.refl _,List.Perm.refl _,fun _=>⟨rfl,rfl⟩⟩
 |true=>
  rw[c] at g1
  have fP:List.Sublist (wD (wF l t) f) l:=cS.trans List.filter_sublist
  have hal:r.1.length=B.1.length:=by
   by_cases c':wE B.1.length (wD (wF l t) f)
   ·obtain⟨a',p',x,e⟩:=h3.1 c'
    cases hi:jy a' B.2.1 B.2.2.1 p' with
    |false=>rw[hi] at e;subst e;rfl
    |true=>rw[hi] at e;subst e;exact x.al
   ·rw[h3.2 c']
  refine⟨(r.1,r.2.1,r.2.2.1,r.2.2.2.1),nX l (wD (wF l t) f),wD (wF l t) f,g1,hs.2.1,hal,(PT _ _).2,qYt _ _ hd (List.Pairwise.sublist fP hd) (fun q hq=>fP.subset hq),fun e=>?_⟩
  rw[e] at h1⊢
  rw[yUj (by omega) hb] at h1
  cases h1
  exact⟨rfl,rfl⟩
theorem yCs {k:Nat}(hk:200≤k){B:BT}(hb:yA B){l:List zC}(hd:qQ l)(hl:∀q∈l,yP B.1.length q)(cy:l.length≤64)(t:Int)(all:Bool):
  ∃(C:BT) (m done:List zC),uY k B.1 B.2.1 B.2.2.1 B.2.2.2 l t all=some (C.1,C.2.1,C.2.2.1,C.2.2.2,m,done)∧yA C∧C.1.length=B.1.length∧List.Sublist m l∧List.Perm (done++m) l∧jY k C (wM m t)=none∧eH k C m t=none:=by
 obtain⟨C,m,d,f1,f2,f3,f4,f5⟩:=JC hk hb hd (by omega) t
 have p1:=f2.perm hd
 have l1:=p1.length_eq
 rw[List.length_append] at l1
 unfold uY
 rw[f1]
 simp only[aj]
 cases all with
 |false=>exact⟨C,m,d,rfl,f3,f4,f5,p1,f2.final⟩
 |true=>
  simp only[aQ,an]
  have hm:qQ m:=List.Pairwise.sublist f5 hd
  obtain⟨D,n,x,g1,g2,g3,g4,g5,g6⟩:=qRf hk f3 hm (fun q hq=>by rw[f4];exact hl q (f5.subset hq)) (by omega) t
  have l2:=g5.length_eq
  rw[List.length_append] at l2
  rw[g1]
  simp only[aj]
  cases x with
  |nil=>
   obtain⟨rfl,rfl⟩:=g6 rfl
   exact⟨D,n,d,rfl,f3,f4,f5,p1,f2.final⟩
  |cons p x=>
   have e1:decide ((((p::x).length:Nat):Int)=0)=false:=ak (by simp;omega)
   rw[e1]
   simp only[an]
   have hn:qQ n:=List.Pairwise.sublist g4 hm
   obtain⟨E,o,y,k1,k2,k3,k4,k5⟩:=JC hk g2 hn (by omega) t
   have p3:=k2.perm hn
   have l3:=p3.length_eq
   rw[List.length_append] at l3
   have r1:zU (d.length+(p::x).length) 56=true:=qX (by simp at l2⊢;omega) (by simp at l2⊢;omega)
   have r2:zU ((d++(p::x)).length+y.length) 56=true:=qX (by simp at l2⊢;omega) (by simp at l2⊢;omega)
   rw[k1]
   simp only[aj,r1,r2,ao]
   refine⟨E,o,d++(p::x)++y,rfl,k3,k4.trans (g3.trans f4),k5.trans (g4.trans f5),?_,k2.final⟩
   have e2:d++(p::x)++y++o=d++((p::x)++(y++o)):=by simp
   rw[e2]
   exact((p3.append_left (p::x)).append_left d).trans ((g5.append_left d).trans p1)
abbrev yT:=Int×Int×Int×Int×Int×Int×Int×Int
instance uZ:DecidableEq yT:=@instDecidableEqProd Int (Int×Int×Int×Int×Int×Int×Int) inferInstance (@instDecidableEqProd Int (Int×Int×Int×Int×Int×Int) inferInstance inferInstance)
def jU (to:Int)(p:zC):yT:=(to,18,p.1,p.2.1,p.2.2.1,p.2.2.2.1,0,0)
def nY (p:zC):List yT:=[jU p.2.1 p,jU p.2.2.1 p]
def wN:List zC→List yT
 |[]=>[]
 |p::l=>nY p++wN l
theorem qUi:∀l m,wN (l++m)=wN l++wN m
 |[],_=>rfl
 |p::l,m=>by
  show nY p++wN (l++m)=nY p++wN l++wN m
  rw[qUi l m,List.append_assoc]
theorem JD:∀l,(wN l).length=2*l.length
 |[]=>rfl
 |p::l=>by
  show(nY p++wN l).length=_
  rw[List.length_append,JD l]
  simp[nY]
  omega
theorem yM5 (l:List zC) i (hi:i<l.length):wN (l.take (i+1))=wN (l.take i)++nY (l.getD i pd):=by
 rw[←dK l i pd hi,qUi]
 rfl
theorem Fx {n}(h:n≤1000):zU (n+1) 64=true:=qX (by omega) (by omega)
theorem vAm {k}(hk:3≤k)(s8:List zC) s9 aw (r:List yT)(hr:r.length≤900) p:
  sC k k s8 s9 aw 2 0 r p.1 p.2.1 p.2.2.1 p.2.2.2.1 p.2.2.2.2.1 p.2.2.2.2.2.1 p.2.2.2.2.2.2 [p.2.1,p.2.2.1]=some (s8,s9,aw,r++nY p):=by
 obtain⟨n,rfl⟩:∃n,k=n+3:=⟨k-3,by omega⟩
 have e1:zU (r.length+1) 64=true:=Fx (by omega)
 have e2:zU ((r++[jU p.2.1 p]).length+1) 64=true:=Fx (by grind)
 have h1:mJ (n+3) p.2.1 18 [p.1,p.2.1,p.2.2.1,p.2.2.2.1]=some (jU p.2.1 p):=rfl
 have h2:mJ (n+3) p.2.2.1 18 [p.1,p.2.1,p.2.2.1,p.2.2.2.1]=some (jU p.2.2.1 p):=rfl
 have w0:zA (0+1)=1:=by decide
 have w1:zA (1+1)=2:=by decide
 show sD (n+3) (sC (n+3) (n+2)) s8 s9 aw 2 0 r p.1 p.2.1 p.2.2.1 p.2.2.2.1 p.2.2.2.2.1 p.2.2.2.2.2.1 p.2.2.2.2.2.2 [p.2.1,p.2.2.1]=_
 unfold sD
 have g0:[p.2.1,p.2.2.1].getD (Int.toNat 0) 0=p.2.1:=rfl
 have b0:zD 0 [p.2.1,p.2.2.1].length=true:=rfl
 have d0:decide ((0:Int)<2)=true:=rfl
 simp[e1]
 show sD (n+3) (sC (n+3) (n+1)) s8 s9 aw 2 1 (r++[jU p.2.1 p]) p.1 p.2.1 p.2.2.1 p.2.2.2.1 p.2.2.2.2.1 p.2.2.2.2.2.1 p.2.2.2.2.2.2 [p.2.1,p.2.2.1]=_
 unfold sD
 have g1:[p.2.1,p.2.2.1].getD (Int.toNat 1) 0=p.2.2.1:=rfl
 have b1:zD 1 [p.2.1,p.2.2.1].length=true:=rfl
 have d1:decide ((1:Int)<2)=true:=rfl
 simp only[ao,aj,e2]
 show sD (n+3) (sC (n+3) n) s8 s9 aw 2 2 (r++[jU p.2.1 p]++[jU p.2.2.1 p]) p.1 p.2.1 p.2.2.1 p.2.2.2.1 p.2.2.2.2.1 p.2.2.2.2.2.1 p.2.2.2.2.2.2 [p.2.1,p.2.2.1]=_
 unfold sD
 have d2:decide ((2:Int)<2)=false:=rfl
 rw[d2,List.append_assoc]
 rfl
theorem qT0 {k}{l:List zC}(hk:l.length+3≤k)(hl:l.length≤400):JE k l=some (wN l):=by
 unfold JE
 obtain ⟨s', h1, h2⟩ := wC (L := fun n i (s : List yT) => Fy k n l l.length i s) (N := l.length) (fun s => s) (fun i s => s = wN (l.take i)) (fun n s _=>by
  show Bp k _ l l.length l.length s=_
  unfold Bp
  simp) (fun n i s hi hs=>by
  refine⟨_,?_,(yM5 l i hi).symm⟩
  show Bp k _ l l.length i s=_
  unfold Bp
  have fP:s.length≤900:=by
   rw[hs,JD,List.length_take];omega
  have h2:=vAm (k:=k) (by omega) l l.length i s fP (l.getD i pd)
  simp only[qK,qI,aH,ah hi,ao]
  rw[h2]
  simp[qM hi (by grind)]
  rw[hs]) (s:=[]) (show l.length<k by omega) rfl
 simp_all
def dt (q:zC)(o:yT):Bool:=decide (o.2.2.1=q.1)&&(decide (o.1=q.2.1)&&(decide (o.2.1=21)||(decide (o.2.1=22)||decide (o.2.1=18))))
def gF (q:zC)(o:List yT):Nat:=o.countP (dt q)
theorem u6 (q:zC)(a b:List yT):gF q (a++b)=gF q a+gF q b:=List.countP_append
theorem P0 {f:zC→Bool}{q:zC}:∀{ps:List zC},qQ ps→q∈ps→f q=true→(∀p∈ps,f p=true→p.1=q.1)→ps.countP f=1
 |[],_,h,_,_=>by cases h
 |p::ps,hd,hq,hf,hu=>by
  have hc:=List.pairwise_cons.1 hd
  rw[List.countP_cons]
  rcases List.mem_cons.1 hq with rfl|hq
  ·rw[hf,if_pos rfl]
   have:ps.countP f=0:=by
    rw[List.countP_eq_zero]
    intro r hr uf
    exact hc.1 r hr (hu r (List.mem_cons_of_mem _ hr) uf).symm
   omega
  ·have:f p=false:=by
    cases h:f p with
    |false=>rfl
    |true=>exact absurd (hu p (List.mem_cons_self ..) h) (hc.1 q hq)
   rw[this,P0 hc.2 hq hf (fun r hr=>hu r (List.mem_cons_of_mem _ hr))]
   rfl
def wY (kd:Int)(p:zC):yT:=(p.2.1,kd,p.1,0,0,0,0,0)
theorem Bq {kd:Int}(hk:kd=21∨kd=22){q:zC}{ps:List zC}(hd:qQ ps):(q∈ps→gF q (ps.map (wY kd))=1)∧((∀p∈ps,p.1≠q.1)→gF q (ps.map (wY kd))=0):=by
 unfold gF
 rw[List.countP_map]
 constructor
 ·intro h
  apply P0 hd h
  ·show dt q (wY kd q)=true
   unfold dt wY
   rcases hk with rfl|rfl<;>simp
  ·intro p hp hf
   have cT:dt q (wY kd p)=true:=hf
   unfold dt wY at cT
   rw[bH,bD] at cT
   exact cT.1
 ·intro h
  rw[List.countP_eq_zero]
  intro p hp hf
  have cT:dt q (wY kd p)=true:=hf
  unfold dt wY at cT
  rw[bH,bD] at cT
  exact h p hp cT.1
theorem yFc (q:zC):∀(d:List zC),gF q (wN d)=d.countP (fun p=>dt q (jU p.2.1 p))+d.countP (fun p=>dt q (jU p.2.2.1 p))
 |[]=>rfl
 |p::d=>by
  show gF q (nY p++wN d)=_
  rw[u6,yFc q d,List.countP_cons,List.countP_cons]
  have e:gF q (nY p)=(if dt q (jU p.2.1 p)=true then 1 else 0)+(if dt q (jU p.2.2.1 p)=true then 1 else 0):=by
   unfold gF nY
   rw[List.countP_cons,List.countP_cons,List.countP_nil]
   omega
  rw[e]
  omega
theorem JF {n:Nat}{q:zC}{d:List zC}(hd:qQ d)(hm:∀p∈d,yP n p):(q∈d→gF q (wN d)=1)∧((∀p∈d,p.1≠q.1)→gF q (wN d)=0):=by
 have h2:∀(l:List zC),qQ l→(∀p∈l,yP n p)→(q∈l∨∀p∈l,p.1≠q.1)→l.countP (fun p=>dt q (jU p.2.2.1 p))=0:=by
  intro l uD Js hq
  rw[List.countP_eq_zero]
  intro p hp hf
  have cT:dt q (jU p.2.2.1 p)=true:=hf
  unfold dt jU at cT
  rw[bH,bH,bD,bD] at cT
  rcases hq with hq|hq
  ·have:=uD.eq_of hp hq cT.1
   subst this
   exact(Js p hp).ne cT.2.1.symm
  ·exact hq p hp cT.1
 rw[yFc]
 constructor
 ·intro h
  rw[h2 d hd hm (.inl h),P0 hd h]
  ·show dt q (jU q.2.1 q)=true
   unfold dt jU
   simp
  ·intro p hp hf
   have cT:dt q (jU p.2.1 p)=true:=hf
   unfold dt jU at cT
   rw[bH,bD] at cT
   exact cT.1
 ·intro h
  rw[h2 d hd hm (.inr h)]
  have:d.countP (fun p=>dt q (jU p.2.1 p))=0:=by
   rw[List.countP_eq_zero]
   intro p hp hf
   have cT:dt q (jU p.2.1 p)=true:=hf
   unfold dt jU at cT
   rw[bH,bD] at cT
   exact h p hp cT.1
  omega
def u9 (B:BT)(i:Nat):yT:=((i:Int),23,(B.1.getD i ad).1,0,0,0,0,0)
def j5 (B:BT)(n:Nat):List yT:=(List.range n).map (u9 B)
theorem yC5 (q:zC)(B:BT)(n:Nat):gF q (j5 B n)=0:=by
 unfold gF j5
 rw[List.countP_map,List.countP_eq_zero]
 intro i _ hf
 have cT:dt q (u9 B i)=true:=hf
 unfold dt u9 at cT
 simp at cT
theorem yQe (B:BT)(i:Nat):j5 B (i+1)=j5 B i++[u9 B i]:=by
 unfold j5
 rw[List.range_succ,List.map_append];rfl
theorem yYn {α β:Type}(f:α→β)(l:List α)(i:Nat)(d:α)(h:i<l.length):(l.take (i+1)).map f=(l.take i).map f++[f (l.getD i d)]:=by
 rw[←dK l i d h,List.map_append];rfl
theorem yO3 {k:Nat}{B:BT}(hB:B.1.length≤6)(hk:200≤k){m:List zC}(hm:m.length≤100)(t:Int)(pr:AC)(ho:EQ)(ids:AC)(to:Int)(ov:Bool):
  JG k t B.1 B.2.1 B.2.2.1 B.2.2.2 pr ho m ids to ov=some (t,B.1,B.2.1,B.2.2.1,B.2.2.2,pr,ho,[],ids,to,true,m.map (wY 22)++j5 B B.1.length):=by
 unfold JG
 obtain ⟨s', h1, h2⟩ := wC (L := fun n i (s : List yT) => Br k n m m.length i t B.1 B.2.1 B.2.2.1 B.2.2.2 pr ho m ids to ov 0 0 false s) (N := m.length) (fun s => (t, B.1, B.2.1, B.2.2.1, B.2.2.2, pr, ho, m, ids, to, ov, 0, 0, false, s)) (fun i s => s = (m.take i).map (wY 22)) (fun n s _=>by
  show Bt k _ m m.length m.length t B.1 B.2.1 B.2.2.1 B.2.2.2 pr ho m ids to ov 0 0 false s=_
  unfold Bt
  simp only [qI, ak (Nat.lt_irrefl _), an]) (fun n i s hi hs=>by
  refine⟨_,?_,(yYn (wY 22) m i pd hi).symm⟩
  show Bt k _ m m.length i t B.1 B.2.1 B.2.2.1 B.2.2.2 pr ho m ids to ov 0 0 false s=_
  unfold Bt
  have fP:s.length≤900:=by rw[hs,List.length_map,List.length_take];omega
  have vd:mJ k (m.getD i pd).2.1 22 [(m.getD i pd).1]=some (wY 22 (m.getD i pd)):=rfl
  simp only[pd] at vd
  simp only[qK,qI,aH,ah hi,ao,vd,aj,Fx (show s.length≤1000 by omega),qM hi (show m.length<9223372036854775808 by omega)]
  rw[hs]) (s:=[]) (show m.length<k by omega) rfl
 have fJ:Br k k m m.length 0 t B.1 B.2.1 B.2.2.1 B.2.2.2 pr ho m ids to ov 0 0 false []=_:=h1
 rw[fJ,h2,List.take_length]
 simp only[aj]
 obtain ⟨s2, g1, g2⟩ := wC (L := fun n i (s : List yT) => Bu k n B.1 B.1.length i t B.1 B.2.1 B.2.2.1 B.2.2.2 pr ho m ids to ov 0 0 false s) (N := B.1.length) (fun s => (t, B.1, B.2.1, B.2.2.1, B.2.2.2, pr, ho, m, ids, to, ov, 0, 0, false, s)) (fun i s => s = m.map (wY 22) ++ j5 B i) (fun n s _=>by
  show Bv k _ B.1 B.1.length B.1.length t B.1 B.2.1 B.2.2.1 B.2.2.2 pr ho m ids to ov 0 0 false s=_
  unfold Bv
  simp only [qI, ak (Nat.lt_irrefl _), an]) (fun n i s hi hs=>by
  refine⟨_,?_,(show m.map (wY 22)++j5 B i++[u9 B i]=m.map (wY 22)++j5 B (i+1) by rw[yQe,List.append_assoc])⟩
  show Bv k _ B.1 B.1.length i t B.1 B.2.1 B.2.2.1 B.2.2.2 pr ho m ids to ov 0 0 false s=_
  unfold Bv
  have fP:s.length≤900:=by
   rw[hs,List.length_append,List.length_map]
   unfold j5
   rw[List.length_map,List.length_range]
   omega
  have vd:mJ k i 23 [(B.1.getD i ad).1]=some (u9 B i):=rfl
  have ho3:mJ k i 23 [(B.1.getD i (0,0,0)).1]=some (u9 B i):=vd
  simp only[qK,qI,aH,ah hi,ao,ho3,aj,Fx (show s.length≤1000 by omega),qM hi (show B.1.length<9223372036854775808 by omega)]
  rw[hs]) (s:=m.map (wY 22)) (show B.1.length<k by omega) (by show _=_++[];rw[List.append_nil])
 have PB:Bu k k B.1 B.1.length 0 t B.1 B.2.1 B.2.2.1 B.2.2.2 pr ho m ids to ov 0 0 false (m.map (wY 22))=_:=g1
 rw[PB,g2]
 rfl
def jA (t:Int)(p:zC):Bool:=decide (t>p.2.2.2.2.2.2)
theorem vKo {k:Nat}(hk:200≤k){m:List zC}(hm:m.length≤100)(pa:Int)(as:List (Int×Int))(cu cl pe t:Int)(B:BT)(pr:AC)(ho:EQ)(ids:AC)(to:Int)(ov:Bool):
  Bw k k m m.length 0 pa as cu cl pe t B.1 B.2.1 B.2.2.1 B.2.2.2 pr ho m ids to ov 0 0 false [] []=some (pa,as,cu,cl,pe,t,B.1,B.2.1,B.2.2.1,B.2.2.2,pr,ho,m,ids,to,ov,0,0,false,(m.filter (jA t)).map (wY 21),m.filter (fun p=> !jA t p)):=by
 obtain ⟨s', h1, h2, h3⟩ := wC (L := fun n i (s : List yT × List zC) => Bw k n m m.length i pa as cu cl pe t B.1 B.2.1 B.2.2.1 B.2.2.2 pr ho m ids to ov 0 0 false s.1 s.2) (N := m.length) (fun s => (pa, as, cu, cl, pe, t, B.1, B.2.1, B.2.2.1, B.2.2.2, pr, ho, m, ids, to, ov, 0, 0, false, s.1, s.2)) (fun i s => s.1 = ((m.take i).filter (jA t)).map (wY 21) ∧ s.2 = (m.take i).filter (fun p => !jA t p)) (fun n s _=>by
  show Bx k _ m m.length m.length pa as cu cl pe t B.1 B.2.1 B.2.2.1 B.2.2.2 pr ho m ids to ov 0 0 false s.1 s.2=_
  unfold Bx
  simp only [qI, ak (Nat.lt_irrefl _), an]) (fun n i s hi hs=>by
  have xw:s.1.length≤900:=by
   rw[hs.1,List.length_map]
   have:=List.length_filter_le (jA t) (m.take i)
   rw[List.length_take] at this
   omega
  have ng:s.2.length≤900:=by
   rw[hs.2]
   have:=List.length_filter_le (fun p=> !jA t p) (m.take i)
   rw[List.length_take] at this
   omega
  show∃s',Bx k _ m m.length i pa as cu cl pe t B.1 B.2.1 B.2.2.1 B.2.2.2 pr ho m ids to ov 0 0 false s.1 s.2=_∧_
  unfold Bx P1
  have vd:mJ k (m.getD i pd).2.1 21 [(m.getD i pd).1]=some (wY 21 (m.getD i pd)):=rfl
  simp only[pd] at vd
  simp only[qK,qI,aH,ah hi,ao,vd,aj,Fx (show s.1.length≤1000 by omega),sj (show s.2.length≤1000 by omega),qM hi (show m.length<9223372036854775808 by omega)]
  have f1:=E2 (jA t) m i pd hi
  have f2:=E2 (fun p=> !jA t p) m i pd hi
  cases hb:jA t (m.getD i pd) with
  |true=>
   have bj:decide (t>(m.getD i (0,0,0,0,0,0,0)).2.2.2.2.2.2)=true:=hb
   rw[bj]
   refine⟨(s.1++[wY 21 (m.getD i pd)],s.2),rfl,?_,?_⟩
   ·show s.1++_=_
    rw[f1,hb,hs.1]
    simp
   ·show s.2=_
    rw[f2,hb,hs.2]
    simp
  |false=>
   have bj:decide (t>(m.getD i (0,0,0,0,0,0,0)).2.2.2.2.2.2)=false:=hb
   rw[bj]
   refine⟨(s.1,s.2++[m.getD i pd]),rfl,?_,?_⟩
   ·show s.1=_
    rw[f1,hb,hs.1]
    simp
   ·show s.2++_=_
    rw[f2,hb,hs.2]
    simp) (s:=([],[])) (show m.length<k by omega) ⟨rfl,rfl⟩
 have:=h1.trans (by rw[h2,h3,List.take_length])
 exact this
structure vBt (t cl:Int) (B C:BT) (m m':List zC) (ov:Bool) (o:List yT):Prop where
 bk:yA C
 bl:C.1.length=B.1.length
 sub:List.Sublist m' m
 over:ov=decide (t+1=cl)
 none:ov=true→m'=[]
 late:ov=false→∀p∈m',jA (t+1) p=false
 Jp:∀p∈m',gF p o=0
 gD:∀p∈m,p∉m'→gF p o=1
 quiet:∀q:zC,(∀p∈m,p.1≠q.1)→gF q o=0
 room:o.length+2*m'.length≤2*m.length+(if ov=true then 6 else 0)
theorem qQ.not_in {l m d:List zC}(hd:qQ (d++m)){p}(hp:p∈m):∀q∈d,q.1≠p.1:=fun q hq=>(List.pairwise_append.1 hd).2.2 q hq p hp
end Go.Ab.Gi
