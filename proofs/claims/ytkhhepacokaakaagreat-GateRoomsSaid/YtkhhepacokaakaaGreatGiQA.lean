/- Plain proofs, part 0. -/
import Derived.Test.YtkhhepacokaakaaGreatGiAbC
import Derived.Test.YtkhhepacokaakaaGreatGiXS
set_option linter.unusedVariables false
set_option linter.unusedSimpArgs false
set_option maxRecDepth 100000
set_option linter.unusedSectionVars false
namespace Go.Ab
theorem ah {p:Prop}[Decidable p](h:p):decide p=true:=decide_eq_true h
theorem ak {p:Prop}[Decidable p](h:¬p):decide p=false:=decide_eq_false h
theorem Ze {p:Prop}[Decidable p](h:decide p=true):p:=of_decide_eq_true h
theorem l8 {p:Prop}[Decidable p](h:decide p=false):¬p:=of_decide_eq_false h
theorem bH {p:Prop}[Decidable p]:(decide p=true)=p:=decide_eq_true_eq
theorem aj {α β:Type}(a:α)(f:α→Option β):(some a).bind f=f a:=rfl
theorem an {α:Type}(a b:α):cond true a b=a:=rfl
theorem ao {α:Type}(a b:α):cond false a b=b:=rfl
theorem aJ (n:Nat):(n:Int).toNat=n:=rfl
theorem bO (a b:Bool):((a&&b)=true)=(a=true∧b=true):=Bool.and_eq_true a b
theorem aW:(!true)=false:=rfl
theorem dg:(!false)=true:=rfl
end Go.Ab
namespace Go.Ab
theorem qI {x:Int}(h1:-9223372036854775808≤x)(h2:x<9223372036854775808):zA x=x:=by
 unfold zA IntKind.wrap
 simp only[IntKind.bits,IntKind.signed,Bool.true_and]
 by_cases h:x%2^64≥2^(64-1)
 ·rw[if_pos (by simpa using h)];omega
 ·rw[if_neg (by simpa using h)];omega
theorem yVl (x:Int):-9223372036854775808≤zA x:=by
 unfold zA IntKind.wrap
 simp only[IntKind.bits,IntKind.signed,Bool.true_and]
 by_cases h:x%2^64≥2^(64-1)
 ·rw[if_pos (by simpa using h)];omega
 ·rw[if_neg (by simpa using h)];omega
theorem yMr (x:Int):zA x<9223372036854775808:=by
 unfold zA IntKind.wrap
 simp only[IntKind.bits,IntKind.signed,Bool.true_and]
 by_cases h:x%2^64≥2^(64-1)
 ·rw[if_pos (by simpa using h)];omega
 ·rw[if_neg (by simpa using h)];omega
theorem qK {i N:Nat}(h:i<N)(hN:N<9223372036854775808):zA ((i:Int)+1)=((i+1:Nat):Int):=by
 rw[qI (by omega) (by omega)];rfl
theorem wfi {n:Int}(h:(Lit.int .i64 n).wf=true):-9223372036854775808≤n∧n<9223372036854775808:=by
 simp only[Lit.wf,bO,bH,IntKind.min,IntKind.max,IntKind.bits,IntKind.signed] at h
 simp at h
 omega
theorem qG (i n:Nat):zD (i:Int) n=decide (i<n):=by
 unfold zD
 simp
theorem eI {i:Int}{n:Nat}(h0:0≤i)(h1:i<n):zD i n=true:=by
 unfold zD
 simp;omega
theorem qU {n b:Nat}(h:n*b≤140737488355328)(h':n≤140737488355328):zY n b=true:=by
 unfold zY
 rw[Nat.ble_eq_true_of_le h,Nat.ble_eq_true_of_le h'];rfl
theorem qJ (i n:Nat):decide ((i:Int)<(n:Int))=decide (i<n):=by simp
theorem nB (i n:Nat):decide ((i:Int)=(n:Int))=decide (i=n):=by
 by_cases h:i=n
 ·subst h;simp
 ·rw[ak h,ak (by omega)]
def qE (p:Nat→Bool):Nat→Nat→Bool
 |0,_=>true
 |c+1,i=>p i&&qE p c (i+1)
theorem Zf {p:Nat→Bool}:∀{c i:Nat},qE p c i=true↔∀j,i≤j→j<i+c→p j=true
 |0,i=>by simp[qE];intro j h1 h2;omega
 |c+1,i=>by
  simp only[qE,bO,Zf (c:=c)]
  constructor
  ·rintro⟨h1,h2⟩ j h3 h4
   by_cases e:j=i
   ·subst e;exact h1
   ·exact h2 j (by omega) (by omega)
  ·intro h
   exact⟨h i (Nat.le_refl i) (by omega),fun j h1 h2=>h j (by omega) (by omega)⟩
theorem fK {p:Nat→Bool}{c:Nat}:qE p c 0=true↔∀j,j<c→p j=true:=by
 rw[Zf]
 exact⟨fun h j hj=>h j (Nat.zero_le j) (by omega),fun h j _ hj=>h j (by omega)⟩
theorem Zg {X:Type}{L:Nat→Int→Option X}{N:Nat}(ok:Nat→Bool)(a b:X)(bp:∀n,L (n+1) (N:Int)=some a)
  (aC:∀n i,i<N→L (n+1) (i:Int)=bif ok i then L n ((i+1:Nat):Int) else some b):∀c i n,i+c=N→c<n→L n (i:Int)=some (bif qE ok c i then a else b)
 |0,i,n,h,hn=>by
  obtain⟨n,rfl⟩:∃m,n=m+1:=⟨n-1,by omega⟩
  have:i=N:=by omega
  subst this
  exact bp n
 |c+1,i,n,h,hn=>by
  obtain⟨n,rfl⟩:∃m,n=m+1:=⟨n-1,by omega⟩
  rw[aC n i (by omega)]
  unfold qE
  cases ok i with
  |false=>rfl
  |true=>
   simp only[an,Bool.true_and]
   exact Zg ok a b bp aC c (i+1) n (by omega) (by omega)
theorem ky {X:Type}{L:Nat→Int→Option X}{N:Nat}(ok:Nat→Bool)(a b:X)(bp:∀n,L (n+1) (N:Int)=some a)
  (aC:∀n i,i<N→L (n+1) (i:Int)=bif ok i then L n ((i+1:Nat):Int) else some b) {n:Nat} (hn:N<n):L n 0=some (bif qE ok N 0 then a else b):=
 Zg ok a b bp aC N 0 n (by omega) hn
theorem Zh {L:Nat→Int→Option (Unit⊕Int)}{N:Nat}(bad:Nat→Bool)(bp:∀n,L (n+1) (N:Int)=some (.inl ()))
  (aC:∀n i,i<N→L (n+1) (i:Int)=bif bad i then some (.inr (i:Int)) else L n ((i+1:Nat):Int)):
  ∀c i n,i+c=N→c<n→(qE (fun j=> !bad j) c i=true∧L n (i:Int)=some (.inl ()))∨∃x:Nat,i≤x∧x<N∧bad x=true∧(∀j,i≤j→j<x→bad j=false)∧qE (fun j=> !bad j) c i=false∧L n (i:Int)=some (.inr (x:Int))
 |0,i,n,h,hn=>by
  obtain⟨n,rfl⟩:∃m,n=m+1:=⟨n-1,by omega⟩
  have:i=N:=by omega
  subst this
  exact .inl ⟨rfl,bp n⟩
 |c+1,i,n,h,hn=>by
  obtain⟨n,rfl⟩:∃m,n=m+1:=⟨n-1,by omega⟩
  rw[aC n i (by omega)]
  unfold qE
  cases hb:bad i with
  |true=>exact .inr ⟨i,Nat.le_refl i,by omega,hb,fun j h1 h2=>absurd h1 (by omega),rfl,rfl⟩
  |false=>
   simp only[ao,dg,Bool.true_and]
   rcases Zh bad bp aC c (i+1) n (by omega) (by omega) with h1|⟨x,x1,x2,x3,x4,x5,x6⟩
   ·exact .inl h1
   ·refine .inr ⟨x,by omega,x2,x3,fun j h1 h2=>?_,x5,x6⟩
    by_cases e:j=i
    ·subst e;exact hb
    ·exact x4 j (by omega) h2
theorem rO {L:Nat→Int→Option (Unit⊕Int)}{N:Nat}(bad:Nat→Bool)(bp:∀n,L (n+1) (N:Int)=some (.inl ()))
  (aC:∀n i,i<N→L (n+1) (i:Int)=bif bad i then some (.inr (i:Int)) else L n ((i+1:Nat):Int)) {n:Nat} (hn:N<n):
  ∃x:Unit⊕Int,L n 0=some x∧decide ((match x with|.inl _=>(-1:Int)|.inr y=>y)≥0)= !qE (fun j=> !bad j) N 0:=by
 rcases Zh bad bp aC N 0 n (by omega) hn with⟨h1,h2⟩|⟨x,_,_,_,_,h5,h6⟩
 ·exact⟨_,h2,by rw[h1];rfl⟩
 ·exact⟨_,h6,by rw[h5];simp⟩
theorem Zi {S X:Type}{L:Nat→Int→S→Option X}{N:Nat}(e:S→X)(inv:Nat→S→Prop)(bp:∀n s,inv N s→L (n+1) (N:Int) s=some (e s))
  (aC:∀n i s,i<N→inv i s→∃s',L (n+1) (i:Int) s=L n ((i+1:Nat):Int) s'∧inv (i+1) s'):
  ∀c i n s,i+c=N→c<n→inv i s→∃s',L n (i:Int) s=some (e s')∧inv N s'
 |0,i,n,s,h,hn,hs=>by
  obtain⟨n,rfl⟩:∃m,n=m+1:=⟨n-1,by omega⟩
  have:i=N:=by omega
  subst this
  exact⟨s,bp n s hs,hs⟩
 |c+1,i,n,s,h,hn,hs=>by
  obtain⟨n,rfl⟩:∃m,n=m+1:=⟨n-1,by omega⟩
  obtain⟨s',h1,h2⟩:=aC n i s (by omega) hs
  rw[h1]
  exact Zi e inv bp aC c (i+1) n s' (by omega) (by omega) h2
theorem wE {S X:Type}{L:Nat→Int→S→Option X}{N:Nat}(e:S→X)(inv:Nat→S→Prop)(bp:∀n s,inv N s→L (n+1) (N:Int) s=some (e s))
  (aC:∀n i s,i<N→inv i s→∃s',L (n+1) (i:Int) s=L n ((i+1:Nat):Int) s'∧inv (i+1) s') {n:Nat} {s:S} (hn:N<n) (hs:inv 0 s):
  ∃s',L n 0 s=some (e s')∧inv N s':=Zi e inv bp aC N 0 n s (by omega) hn hs
def zL {α:Type}(g:α→Int):List α→Int
 |[]=>0
 |p::l=>g p+zL g l
theorem iE {α:Type}(g:α→Int):∀(l m:List α),zL g (l++m)=zL g l+zL g m
 |[],m=>by simp[zL]
 |p::l,m=>by
  show g p+zL g (l++m)=g p+zL g l+zL g m
  rw[iE g l m];omega
theorem yh {α:Type}{g:α→Int}{A:Int}:∀{l:List α},(∀p∈l,-A≤g p∧g p≤A)→-(l.length*A)≤zL g l∧zL g l≤l.length*A
 |[],_=>by simp[zL]
 |p::l,h=>by
  have h1:=h p (List.mem_cons_self ..)
  have h2:=yh (l:=l) fun q hq=>h q (List.mem_cons_of_mem _ hq)
  have e:((p::l).length:Int)*A=(l.length:Int)*A+A:=by
   rw[List.length_cons,Int.natCast_add,Int.add_mul];simp
  rw[e]
  show-_≤g p+zL g l∧g p+zL g l≤_
  omega
theorem rP {α:Type}{g:α→Int}:∀{l:List α},(∀p∈l,0≤g p)→0≤zL g l
 |[],_=>by simp[zL]
 |p::l,h=>by
  have h1:=h p (List.mem_cons_self ..)
  have h2:=rP (l:=l) fun q hq=>h q (List.mem_cons_of_mem _ hq)
  show 0≤g p+zL g l
  omega
theorem Zj {α:Type}(g h:α→Int):∀(l:List α),zL (fun p=>g p+h p) l=zL g l+zL h l
 |[]=>rfl
 |p::l=>by
  show g p+h p+zL _ l=g p+zL g l+(h p+zL h l)
  rw[Zj g h l];omega
theorem NS {α:Type}(g h:α→Int):∀(l:List α),zL (fun p=>g p-h p) l=zL g l-zL h l
 |[]=>rfl
 |p::l=>by
  show g p-h p+zL _ l=g p+zL g l-(h p+zL h l)
  rw[NS g h l];omega
theorem HT {α:Type}{g h:α→Int}:∀{l:List α},(∀p∈l,g p=h p)→zL g l=zL h l
 |[],_=>rfl
 |p::l,e=>by
  show g p+zL g l=h p+zL h l
  rw[e p (List.mem_cons_self ..),HT fun q hq=>e q (List.mem_cons_of_mem _ hq)]
def qH (g:Nat→Int):Nat→Int
 |0=>0
 |n+1=>qH g n+g n
theorem yi (g h:Nat→Int):∀n,qH (fun j=>g j+h j) n=qH g n+qH h n
 |0=>rfl
 |n+1=>by
  show qH _ n+(g n+h n)=qH g n+g n+(qH h n+h n)
  rw[yi g h n];omega
theorem nC {g h:Nat→Int}:∀{n:Nat},(∀j,j<n→g j=h j)→qH g n=qH h n
 |0,_=>rfl
 |n+1,e=>by
  show qH g n+g n=qH h n+h n
  rw[nC fun j hj=>e j (by omega),e n (Nat.lt_succ_self n)]
theorem ur (c:Int)(t:Nat):∀n,qH (fun j=>if j=t then c else 0) n=if t<n then c else 0
 |0=>rfl
 |n+1=>by
  show qH _ n+(if n=t then c else 0)=_
  rw[ur c t n]
  by_cases h:t<n
  ·rw[if_pos h,if_neg (by omega),if_pos (by omega)];omega
  ·by_cases h':n=t
   ·rw[if_neg h,if_pos h',if_pos (by omega)];omega
   ·rw[if_neg h,if_neg h',if_neg (by omega)];omega
theorem NT:∀n,qH (fun _=>0) n=0
 |0=>rfl
 |n+1=>by show qH _ n+0=0;rw[NT n];rfl
theorem DR {g:Nat→Int}{A:Int}(h:∀j,-A≤g j∧g j≤A):∀n:Nat,-(n*A)≤qH g n∧qH g n≤n*A
 |0=>by simp[qH]
 |n+1=>by
  have h1:=h n
  have h2:=DR h n
  have e:((n+1:Nat):Int)*A=(n:Int)*A+A:=by
   rw[Int.natCast_add,Int.add_mul];simp
  rw[e]
  show-_≤qH g n+g n∧qH g n+g n≤_
  omega
theorem HU {α:Type}(g:Nat→α→Int)(n:Nat):∀l:List α,qH (fun j=>zL (g j) l) n=zL (fun p=>qH (fun j=>g j p) n) l
 |[]=>NT n
 |p::l=>by
  show qH (fun j=>g j p+zL (g j) l) n=qH (fun j=>g j p) n+zL _ l
  rw[yi,HU g n l]
theorem jY {α:Type}{l:List α}{i:Nat}{d:α}(h:i<l.length):l.getD i d∈l:=by
 rw[List.getD_eq_getElem?_getD,List.getElem?_eq_getElem h]
 exact List.getElem_mem h
theorem dE {α:Type}(l:List α)(i:Nat)(d:α)(h:i<l.length):l.take i++[l.getD i d]=l.take (i+1):=by
 rw[List.take_add_one,List.getD_eq_getElem?_getD,List.getElem?_eq_getElem h]
 rfl
theorem jQ {α:Type}(l:List α)(i j:Nat)(a d:α):(l.set i a).getD j d=if i=j∧i<l.length then a else l.getD j d:=by
 rw[List.getD_eq_getElem?_getD,List.getD_eq_getElem?_getD,List.getElem?_set]
 by_cases h:i=j
 ·subst h
  by_cases h':i<l.length<;>simp[h']
 ·simp[h]
theorem DS {α:Type}{l m:List α}(d:α)(hl:l.length=m.length)(h:∀i,i<l.length→l.getD i d=m.getD i d):l=m:=by
 apply List.ext_getElem hl
 intro i h1 h2
 have:=h i h1
 rwa [List.getD_eq_getElem?_getD,List.getD_eq_getElem?_getD,List.getElem?_eq_getElem h1,List.getElem?_eq_getElem h2] at this
end Go.Ab
namespace Go.Ab.Gi
open Go.Ab
def nD (s c:Int):Int:=fI .u64 (shl .u64 s 8) (IntKind.wrap .u64 c)
def yj (b:AC):Int:=zA (b.foldl nD 0)
def ph:Nat→AC→AC
 |0,_=>[]
 |m+1,b=>yj (b.take 8)::ph m (b.drop 8)
theorem vHo {x:AC}{i:Nat}(h:i<x.length)(s:Int):(x.take (i+1)).foldl nD s=nD ((x.take i).foldl nD s) (x.getD i 0):=by
 rw[←dE x i 0 h,List.foldl_append];rfl
theorem yTb {k:Nat}(hk:9≤k)(s0 x r0:AC)(hx:x.length=8):yk k k s0 0 x 8 0 r0=some (s0,x.foldl nD 0,r0):=by
 obtain ⟨s, h1, h2⟩ := wE (L := fun n i (s : Int) => yk k n s0 s x 8 i r0) (N := 8) (fun s => (s0, s, r0)) (fun i s => s = (x.take i).foldl nD 0) (fun n s _ => rfl) (fun n i s hi hs=>by
  refine⟨nD s (x.getD i 0),?_,by rw[vHo (by omega),hs]⟩
  show HV k (yk k n) s0 s x 8 (i:Int) r0=_
  unfold HV
  rw[ah (show(i:Int)<8 by omega),an,eI (by omega) (by omega),an,qK (N:=8) hi (by omega),aJ]
  rfl) (n:=k) (s:=0) (by omega) rfl
 rw[List.take_of_length_le (by omega)] at h2
 subst h2
 exact h1
theorem Zk {k:Nat}(hk:9≤k):∀(m n:Nat) (b r:AC),b.length=8*m→m<n→r.length+m≤17592186044416→yl k n b r=some (r++ph m b)
 |0,n,b,r,hb,hn,_=>by
  obtain⟨n,rfl⟩:∃x,n=x+1:=⟨n-1,by omega⟩
  show ym k (yl k n) b r=_
  unfold ym
  rw[ak (by omega),ao]
  simp[ph]
 |m+1,n,b,r,hb,hn,hr=>by
  obtain⟨n,rfl⟩:∃x,n=x+1:=⟨n-1,by omega⟩
  show ym k (yl k n) b r=_
  unfold ym
  have ht:(b.take 8).length=8:=by rw[List.length_take];omega
  have e8:((b.take 8).length:Int)=8:=by rw[ht];rfl
  rw[ah (show(b.length:Int)>0 by omega),an,ah (show(8:Int)≤(b.length:Int) by omega),an,e8,yTb hk _ _ _ ht,aj]
  dsimp only
  rw[qU (by omega) (by omega),an,ah (show(8:Int)≤(b.length:Int) by omega),an]
  rw[Zk hk m n _ _ (by rw[List.length_drop];omega) (by omega) (by simp;omega)]
  show some ((r++[zA _])++ph m (b.drop 8))=_
  rw[List.append_assoc]
  rfl
theorem vC3 (n:Nat):Int.tmod (n:Int) 8=((n%8:Nat):Int):=rfl
def eJ (b:AC):AC×Int:=if b.length%8=0 then(ph (b.length/8) b,0) else([],2)
theorem Zl {k:Nat}{b:AC}(hk:9≤k)(hb:b.length<8*k)(bh:b.length≤140737488355328):l9 k b=some (eJ b):=by
 unfold l9 eJ
 rw[vC3]
 by_cases h:b.length%8=0
 ·rw[if_pos h,ah (by omega),Zk hk (b.length/8) k b [] (by omega) (by omega) (by simp;omega)]
  rfl
 ·rw[if_neg h,ak (by omega)]
  rfl
def Zm:AC:=[(-1),6,1,2,2,2,1,1,2,0,2,2,2,0,0,0,1,5,4,1,1,1,1,1]
def qY (x:Int):Int:=if 0≤x∧x<24 then Zm.getD x.toNat 0 else-1
theorem Zn (k:Nat)(x:Int):DT k x=some (qY x):=by
 unfold DT qY
 by_cases h:x<0
 ·rw[ah h,if_neg (by omega)];rfl
 ·rw[ak h,ao]
  by_cases h2:x≥24
  ·rw[ah h2,if_neg (by omega)];rfl
  ·rw[ak h2,ao,eI (by omega) (by omega),an,if_pos (by omega)]
   rfl
theorem HW (k:Nat)(x:Int):rQ k x=some (qY x):=by
 by_cases h:0≤x∧x<24
 ·obtain⟨n,rfl⟩:∃n:Nat,x=n:=⟨x.toNat,by omega⟩
  have hn:n<24:=by omega
  have:∀n:Nat,n<24→rQ 0 (n:Int)=some (qY (n:Int)):=by decide
  exact this n hn
 ·have e:qY x= -1:=by unfold qY;rw[if_neg h]
  rw[e]
  unfold rQ
  have ne:∀c:Int,0≤c→c<24→decide (x=c)=false:=fun c h1 h2=>ak (by omega)
  rw[ne 9 (by omega) (by omega),ne 13 (by omega) (by omega),ne 14 (by omega) (by omega),ne 15 (by omega) (by omega),ne 2 (by omega) (by omega),ne 6 (by omega) (by omega),ne 7 (by omega) (by omega),ne 16 (by omega) (by omega),
   ne 19 (by omega) (by omega),ne 20 (by omega) (by omega),ne 21 (by omega) (by omega),ne 22 (by omega) (by omega),ne 23 (by omega) (by omega),ne 3 (by omega) (by omega),ne 4 (by omega) (by omega),ne 5 (by omega) (by omega),ne 8 (by omega) (by omega),
   ne 10 (by omega) (by omega),ne 11 (by omega) (by omega),ne 12 (by omega) (by omega),ne 18 (by omega) (by omega),ne 17 (by omega) (by omega),ne 1 (by omega) (by omega)]
  rfl
abbrev DU:Type:=Int×Int×Int×Int×Int×Int×Int
def ma (b:AC):DU×Int:=
 if b=[] then((0,0,0,0,0,0,0),2)
 else if(eJ (b.drop 1)).2≠0∨((eJ (b.drop 1)).1.length:Int)≠qY (zA (b.getD 0 0)) then((0,0,0,0,0,0,0),2)
 else((zA (b.getD 0 0),(eJ (b.drop 1)).1.getD 0 0,(eJ (b.drop 1)).1.getD 1 0,(eJ (b.drop 1)).1.getD 2 0,(eJ (b.drop 1)).1.getD 3 0,(eJ (b.drop 1)).1.getD 4 0,(eJ (b.drop 1)).1.getD 5 0),0)
theorem vGo (l:AC)(i:Nat):(bif Nat.blt i l.length then l.getD i 0 else 0)=l.getD i 0:=by
 by_cases h:i<l.length
 ·rw[show Nat.blt i l.length=true by simp[Nat.blt_eq,h]];rfl
 ·rw[show Nat.blt i l.length=false by
   cases e:Nat.blt i l.length with
   |false=>rfl
   |true=>rw[Nat.blt_eq] at e;omega]
  rw[List.getD_eq_getElem?_getD,List.getElem?_eq_none (by omega)];rfl
theorem Zo {k:Nat}{b:AC}(hk:9≤k)(hb:b.length≤8*k)(bh:b.length≤140737488355328):uu k b=some (ma b):=by
 unfold uu ma
 cases b with
 |nil=>rfl
 |cons c l=>
  rw[if_neg (by simp)]
  have e0:((c::l).length:Int)=(l.length:Int)+1:=by simp
  rw[ak (by omega),ao,ah (show(1:Int)≤((c::l).length:Int) by omega),an,Zl hk (by simp at hb⊢;omega) (by simp at bh⊢;omega),aj]
  by_cases h:(eJ (List.drop 1 (c::l))).2=0
  ·rw[ah h,eI (by omega) (by simp),HW]
   simp only[aW,ao,an,aj]
   by_cases h2:((eJ (List.drop 1 (c::l))).1.length:Int)=qY (zA ((c::l).getD 0 0))
   ·rw[ah h2,if_neg (fun hh=>hh.elim (fun e=>e h) fun e=>e h2)]
    simp only[aW,ao,vGo]
   ·rw[ak h2,if_pos (.inr h2)]
    rfl
  ·rw[ak h,if_pos (.inl h)]
   rfl
theorem DV (x:Int):qY x≤6:=by
 unfold qY
 split
 ·rename_i h
  obtain⟨n,rfl⟩:∃n:Nat,x=n:=⟨x.toNat,by omega⟩
  have:∀n:Nat,n<24→Zm.getD n 0≤6:=by decide
  exact this n (by omega)
 ·omega
abbrev yn:Type:=Int×Int×Int×Int×Int×Int×Int×Int
abbrev Zp:Type:=Int×Int×AC×Int×Int
abbrev qL:Type:=Int×AC×Int×AC×Int×Int×Int×Bool×Bool×Int
abbrev vS:Type:=Int×Int×Int×Bool
abbrev vIs:Type:=Int×List (Int×Int)×Int×Int×Int
abbrev yo:Type:=Int×List (Int×Int×Int)×EQ×AC×EQ×AC×EQ×List (Int×Int×Int×Int×Int×Int×Int)×AC×Int×Bool
abbrev nE:Type:=Int×List (Int×Int)×Int×Int×Int×Int×List (Int×Int×Int)×EQ×AC×EQ×AC×EQ×List (Int×Int×Int×Int×Int×Int×Int)×AC×Int×Bool×Int×Bool
abbrev vIq:Type:=Int×Int×Bool×Bool
def d0:Zp:=(0,0,[],0,0)
abbrev dkW (ro:Int)(x:AC)(sx:Int)(y:AC)(sy cA cK op:Int):qL:=(ro,x,sx,y,sy,cA,cK,false,false,op)
def yQ (n:Int)(i:Nat):Int:=IntKind.wrap .u8 (shr .i64 n (8*(i:Int)))
def qR (n:Int):AC:=[yQ n 7,yQ n 6,yQ n 5,yQ n 4,yQ n 3,yQ n 2,yQ n 1,yQ n 0]
def yN (l:AC):AC:=l.flatMap qR
theorem la:∀l,(yN l).length=8*l.length
 |[]=>rfl
 |n::l=>by
  have:=la l
  simp[yN] at this⊢
  rw[this]
  simp[qR]
  omega
theorem yMc {k n} v (i:Nat)(hi:i≤7) bJ bU bm r (hr:r.length≤1000000000):
  rR k (n+1) v (i:Int) bJ bU bm r=rR k n v ((i:Int)-1) bJ bU bm (r++[yQ v i]):=by
 show HX k (rR k n) v (i:Int) bJ bU bm r=_
 unfold HX
 have e8:zA (8*(i:Int))=8*(i:Int):=qI (by omega) (by omega)
 rw[ah (by simp),an,e8,ak (by omega),dg,an,qU (by omega) (by omega),an,qI (by omega) (by omega)]
 rfl
theorem vGq {k}(hk:9≤k) v bJ bU bm r (hr:r.length≤100000000):
  rR k k v 7 bJ bU bm r=some (bJ,bU,bm,r++qR v):=by
 have gen:∀m,rR k (m+9) v 7 bJ bU bm r=some (bJ,bU,bm,r++qR v):=fun m=>by
  have h:=fun n i hi r' mU=>yMc (k:=k) (n:=n) v i hi bJ bU bm r' mU
  have h7:=h (m+8) 7 (by omega) r (by omega)
  have h6:=h (m+7) 6 (by omega) (r++[yQ v 7]) (by grind)
  have h5:=h (m+6) 5 (by omega) ((r++[yQ v 7])++[yQ v 6]) (by grind)
  have h4:=h (m+5) 4 (by omega) (((r++[yQ v 7])++[yQ v 6])++[yQ v 5]) (by grind)
  have h3:=h (m+4) 3 (by omega) ((((r++[yQ v 7])++[yQ v 6])++[yQ v 5])++[yQ v 4]) (by grind)
  have h2:=h (m+3) 2 (by omega) (((((r++[yQ v 7])++[yQ v 6])++[yQ v 5])++[yQ v 4])++[yQ v 3]) (by grind)
  have h1:=h (m+2) 1 (by omega) ((((((r++[yQ v 7])++[yQ v 6])++[yQ v 5])++[yQ v 4])++[yQ v 3])++[yQ v 2]) (by simp;omega)
  have h0:=h (m+1) 0 (by omega) (((((((r++[yQ v 7])++[yQ v 6])++[yQ v 5])++[yQ v 4])++[yQ v 3])++[yQ v 2])++[yQ v 1]) (by simp;omega)
  refine(h7.trans (h6.trans (h5.trans (h4.trans (h3.trans (h2.trans (h1.trans (h0.trans ?_))))))))
  show some (bJ,bU,bm,_)=_
  simp only[List.append_assoc,List.cons_append,List.nil_append]
  rfl
 obtain⟨m,rfl⟩:∃m,k=m+9:=⟨k-9,by omega⟩
 exact gen m
theorem Zq {k}(hk:9≤k) l (hl:l.length≤1000000):∀(m n i:Nat),i+m=l.length→m<n→uv k n l (l.length:Int) (i:Int) (yN (l.take i))=some (yN l)
 |0,n,i,hi,hn=>by
  obtain⟨n,rfl⟩:∃x,n=x+1:=⟨n-1,by omega⟩
  show yp k (uv k n) l _ _ _=_
  unfold yp
  simp_all
 |m+1,n,i,hi,hn=>by
  obtain⟨n,rfl⟩:∃x,n=x+1:=⟨n-1,by omega⟩
  show yp k (uv k n) l _ _ _=_
  unfold yp
  have aT:i<l.length:=by omega
  rw[ah (by grind),an,eI (by omega) (by omega),an,aJ,
   vGq hk _ _ _ _ _ (by rw[la,List.length_take];omega),aj,qK (N:=l.length) aT (by omega)]
  rw[show yN (l.take i)++qR (l.getD i 0)=yN (l.take (i+1)) by
   rw[←dE l i 0 aT]
   simp[yN]]
  exact Zq hk l hl m n (i+1) (by omega) (by omega)
theorem DW {k}(hk:9≤k) l (hl:l.length≤1000000)(qu:l.length<k):rS k l=some (yN l):=by
 unfold rS
 have h8:zA (8*(l.length:Int))=((8*l.length:Nat):Int):=by rw[qI (by omega) (by omega)];omega
 rw[h8]
 have hm:ub 0 ((8*l.length:Nat):Int) 1=true:=by
  grind
 rw[hm,an]
 have:=Zq hk l hl l.length k 0 (by omega) qu
 show(uv k k l (l.length:Int) ((0:Nat):Int) (yN (l.take 0))).bind _=_
 simp_all
def vM (l:AC):AC:=qR (l.length:Int)++yN l
theorem vIj {k}(hk:9≤k) l (hl:l.length≤1000000)(qu:l.length<k):HY k l=some (vM l):=by
 unfold HY
 rw[DW hk [(l.length:Int)] (by simp) (by grind),aj,DW hk l hl qu,aj]
 rw[qU (by rw[la,la];grind) (by rw[la,la];grind)]
 rfl
def yZ (b:AC):AC:=[IntKind.wrap .u8 (shr .i64 (b.length:Int) 8),IntKind.wrap .u8 (b.length:Int)]++b
theorem Zr k b:DX k b=some (if b.length≤60000 then(yZ b,true) else([],false)):=by
 unfold DX
 by_cases h:b.length≤60000
 ·rw[ak (by omega),ao,qU (by omega) (by omega),if_pos h]
  rfl
 grind
theorem Zs (x:Nat)(hx:x<18446744073709551616):(BitVec.ofInt 64 (x:Int)).toNat=x:=by
 rw[BitVec.ofInt_natCast,BitVec.toNat_ofNat]
 exact Nat.mod_eq_of_lt hx
theorem Zt (a c:Nat)(hc:c<256)(ha:a*256+c<18446744073709551616):(BitVec.ofInt 64 ((a*256:Nat):Int)|||BitVec.ofInt 64 (c:Int)).toNat=a*256+c:=by
 rw[BitVec.toNat_or,Zs _ (by omega),Zs _ (by omega)]
 have:=Nat.two_pow_add_eq_or_of_lt (b:=c) (i:=8) hc a
 rw[show(2:Nat)^8*a=a*256 by omega] at this
 exact this.symm
theorem HZ (x:Int):IntKind.wrap .u8 x=x%256:=by
 unfold IntKind.wrap
 simp[IntKind.bits,IntKind.signed]
theorem NU (x:Int):IntKind.wrap .u64 x=x%18446744073709551616:=by
 unfold IntKind.wrap
 simp[IntKind.bits,IntKind.signed]
theorem yUs {s c:Int}(hs:0≤s)(hc:0≤c∧c<256):nD s c=(s*256+c)%18446744073709551616:=by
 unfold nD
 have e1:shl .u64 s 8=(s*256)%18446744073709551616:=NU _
 rw[e1,NU c]
 obtain⟨a,ha⟩:∃a:Nat,s%72057594037927936=a:=⟨(s%72057594037927936).toNat,by omega⟩
 obtain⟨d,rfl⟩:∃d:Nat,c=d:=⟨c.toNat,by omega⟩
 have e2:(s*256)%18446744073709551616=((a*256:Nat):Int):=by omega
 have e3:(d:Int)%18446744073709551616=(d:Int):=by omega
 rw[e2,e3]
 show IntKind.wrap .u64 (((BitVec.ofInt 64 ((a*256:Nat):Int)|||BitVec.ofInt 64 (d:Int)).toNat:Nat):Int)=_
 rw[Zt a d (by omega) (by omega),NU]
 omega
theorem yUa (n:Int)(i:Nat)(hi:i≤7):yQ n i=(n/2^(8*i))%256:=by
 unfold yQ
 rw[HZ]
 congr 1
 show n.fdiv (2^(min (8*(i:Int)).toNat 64))=_
 rw[show min (8*(i:Int)).toNat 64=8*i by omega]
 exact Int.fdiv_eq_ediv_of_nonneg _ (Int.le_of_lt (Int.pow_pos (by decide)))
theorem vB2 {n:Int}(h1:-9223372036854775808≤n)(h2:n<9223372036854775808):yj (qR n)=n:=by
 have o:=fun i (hi:i≤7)=>yUa n i hi
 have b:∀i,i≤7→0≤yQ n i∧yQ n i<256:=fun i hi=>by rw[o i hi];omega
 have p:∀s:Int,0≤s→∀i,i≤7→nD s (yQ n i)=(s*256+yQ n i)%18446744073709551616:=fun s hs i hi=>yUs hs (b i hi)
 unfold yj qR
 simp only[List.foldl_cons,List.foldl_nil]
 rw[p 0 (by omega) 7 (by omega),p _ (by omega) 6 (by omega),p _ (by omega) 5 (by omega),p _ (by omega) 4 (by omega),p _ (by omega) 3 (by omega),p _ (by omega) 2 (by omega),p _ (by omega) 1 (by omega),p _ (by omega) 0 (by omega)]
 rw[o 7 (by omega),o 6 (by omega),o 5 (by omega),o 4 (by omega),o 3 (by omega),o 2 (by omega),o 1 (by omega),o 0 (by omega)]
 simp only[Nat.reduceMul,Int.reducePow]
 unfold zA IntKind.wrap
 simp only[IntKind.bits,IntKind.signed,Bool.true_and]
 simp
 split<;>omega
def qP (l:EQ):AC:=l.flatMap vM
theorem jg l:(vM l).length=8*(l.length+1):=by
 simp[vM,la]
 show 8+_=_
 omega
theorem yQy {l:EQ}{i}(h:i<l.length):qP (l.take i)++vM (l.getD i [])=qP (l.take (i+1)):=by
 rw[←dE l i [] h]
 simp[qP]
structure wV (l:EQ):Prop where
 n:l.length≤900
 r:∀x∈l,x.length≤900
theorem yXy {l}(h:∀x∈l,x.length≤900):(qP l).length≤8000*l.length:=by
 induction l with
 |nil=>simp[qP]
 |cons x l ih=>
  have h1:=ih (by grind)
  have h2:=h x (by simp)
  simp[qP,jg] at h1⊢
  omega
theorem yQr {k}(hk:1000≤k){l}(h:wV l):DY k l=some (qP l):=by
 have hn:=h.n
 unfold DY
 obtain ⟨s, h1, h2⟩ := wE (L := fun n i (s : AC) => yq k n l (l.length : Int) i s) (N := l.length) (fun s => s) (fun i s => s = qP (l.take i)) (fun n s _=>by
  show yr k (yq k n) l _ _ s=_
  unfold yr
  simp) (fun n i s hi hs=>by
  refine⟨s++vM (l.getD i []),?_,by rw[hs,yQy hi]⟩
  show yr k (yq k n) l _ (i:Int) s=_
  unfold yr
  have hr:=h.r _ (jY (d:=[]) hi)
  have xN:s.length≤8000*1000:=by
   have:=yXy (l:=l.take i) fun x hx=>h.r x (by grind)
   grind
  rw[ah (by grind),an,eI (by omega) (by omega),an,aJ,vIj (by omega) _ (by omega) (by omega),aj,
   qU (by rw[jg];omega) (by rw[jg];omega),an,qK (N:=l.length) hi (by omega)]) (n:=k) (s:=[]) (by omega) rfl
 simp_all
def fL (a:Int×Int×Int):AC:=[a.1,a.2.1,a.2.2]
def dF (p:Int×Int×Int×Int×Int×Int×Int):AC:=[p.1,p.2.1,p.2.2.1,p.2.2.2.1,p.2.2.2.2.1,p.2.2.2.2.2.1,p.2.2.2.2.2.2]
def jK (s:yo):EQ:=
 (((((([[s.1,s.2.2.2.2.2.2.2.2.2.1,bif s.2.2.2.2.2.2.2.2.2.2 then 1 else 0,(s.2.1.length:Int),(s.2.2.1.length:Int),(s.2.2.2.1.length:Int),(s.2.2.2.2.1.length:Int),(s.2.2.2.2.2.2.1.length:Int),(s.2.2.2.2.2.2.2.1.length:Int)]]++
  s.2.1.map fL)++s.2.2.1)++[s.2.2.2.1])++s.2.2.2.2.1)++[s.2.2.2.2.2.1])++s.2.2.2.2.2.2.1)++s.2.2.2.2.2.2.2.1.map dF++[s.2.2.2.2.2.2.2.2.1]
theorem Zu {α β:Type}(f:α→β) d {l:List α}{i}(h:i<l.length):(l.take i).map f++[f (l.getD i d)]=(l.take (i+1)).map f:=by
 rw[←dE l i d h];simp
theorem yQa {k}{l:List (Int×Int×Int)}(hl:l.length≤900)(hk:1000≤k)(s:yo)(b) r (hr:r.length≤1000000):uw k k l (l.length:Int) 0 s b r=some (s,b,r++l.map fL):=by
 obtain ⟨t, h1, h2⟩ := wE (L := fun n i (t : EQ) => uw k n l (l.length : Int) i s b t) (N := l.length) (fun t => (s, b, t)) (fun i t => t = r ++ (l.take i).map fL) (fun n t _=>by
  show yt k (uw k n) l _ _ s b t=_
  unfold yt
  simp) (fun n i t hi ht=>by
  refine⟨t++[fL (l.getD i (0,0,0))],?_,by rw[ht,List.append_assoc,Zu fL (0,0,0) hi]⟩
  show yt k (uw k n) l _ (i:Int) s b t=_
  unfold yt
  have:t.length≤1001000:=by grind
  rw[ah (by grind),an,eI (by omega) (by omega),an,qU (by omega) (by omega),an,qK (N:=l.length) hi (by omega)]
  rfl) (n:=k) (s:=r) (by omega) (by simp)
 simp_all
theorem yOs {k}{l:List (Int×Int×Int×Int×Int×Int×Int)}(hl:l.length≤900)(hk:1000≤k)(s:yo) r (hr:r.length≤1000000):ux k k l (l.length:Int) 0 s r=some (s,r++l.map dF):=by
 obtain ⟨t, h1, h2⟩ := wE (L := fun n i (t : EQ) => ux k n l (l.length : Int) i s t) (N := l.length) (fun t => (s, t)) (fun i t => t = r ++ (l.take i).map dF) (fun n t _=>by
  show yu k (ux k n) l _ _ s t=_
  unfold yu
  simp) (fun n i t hi ht=>by
  refine⟨t++[dF (l.getD i (0,0,0,0,0,0,0))],?_,by rw[ht,List.append_assoc,Zu dF (0,0,0,0,0,0,0) hi]⟩
  show yu k (ux k n) l _ (i:Int) s t=_
  unfold yu
  have:t.length≤1001000:=by grind
  rw[ah (by grind),an,eI (by omega) (by omega),an,qU (by omega) (by omega),an,qK (N:=l.length) hi (by omega)]
  rfl) (n:=k) (s:=r) (by omega) (by simp)
 simp_all
theorem Zv {k}(hk:1000≤k){s}(h:wV (jK s)):fh k s=some (qP (jK s)):=by
 have hn:=h.n
 simp only[jK,List.length_append,List.length_map] at hn
 unfold fh
 rw[show H0 k s.2.2.2.2.2.2.2.2.2.2=some (bif s.2.2.2.2.2.2.2.2.2.2 then 1 else 0) by unfold H0;grind,aj]
 rw[yQa (by omega) hk _ _ _ (by simp),aj]
 dsimp only
 rw[qU (by grind) (by grind),an,qU (by grind) (by grind),an,qU (by simp;omega) (by grind),an,qU (by simp;omega) (by simp;omega),an,
  qU (by simp;omega) (by simp;omega),an,yOs (by omega) hk _ _ (by simp;omega),aj]
 dsimp only
 rw[qU (by simp;omega) (by simp;omega),an]
 show(DY k (jK s)).bind (fun x1=>some x1)=_
 rw[yQr hk h]
 rfl
structure NV (D:qL):Prop where
 Zw:D.2.2.2.2.2.2.2.1=false
 down:D.2.2.2.2.2.2.2.2.1=false
 room:0≤D.1∧D.1≤200000
 x:(D.2.1.length:Int)≤D.1
 y:(D.2.2.2.1.length:Int)≤D.1
def yH (D:qL)(i:Int):AC:=if i=0 then D.2.1 else D.2.2.2.1
theorem NV.as {D}(h:NV D):∃ro x sx y sy cA cK op,D=dkW ro x sx y sy cA cK op∧0≤ro∧ro≤200000∧(x.length:Int)≤ro∧(y.length:Int)≤ro:=by
 obtain⟨ro,x,sx,y,sy,cA,cK,ar,dn,op⟩:=D
 obtain⟨h1,h2,h3,h4,h5⟩:=h
 subst h1;subst h2
 grind
structure vIu (L:vS):Prop where
 side:L.1=0∨L.1=1
 gen:1≤L.2.1∧L.2.1≤4611686018427387904
 rows:0≤L.2.2.1∧L.2.2.1≤1000000
 stale:L.2.2.2=false
theorem nF b:(yZ b).length=b.length+2:=by rfl
def ld (l:AC):Prop:=∀x∈l,-9223372036854775808≤x∧x<9223372036854775808
theorem Zx:∀{l:AC},ld l→ph l.length (yN l)=l
 |[],_=>rfl
 |n::l,h=>by
  have h1:=h n (List.mem_cons_self ..)
  have e:yN (n::l)=qR n++yN l:=by simp[yN]
  rw[e]
  show yj ((qR n++yN l).take 8)::ph l.length ((qR n++yN l).drop 8)=_
  have t:(qR n++yN l).take 8=qR n:=rfl
  have d:(qR n++yN l).drop 8=yN l:=rfl
  rw[t,d,vB2 h1.1 h1.2,Zx fun x hx=>h x (List.mem_cons_of_mem _ hx)]
theorem Zy {l:AC}(h:ld l):eJ (yN l)=(l,0):=by
 unfold eJ
 have:=la l
 rw[if_pos (by omega),show(yN l).length/8=l.length by omega,Zx h]
theorem Zz {k:Nat}(hk:9≤k){l:AC}(hl:l.length<k)(hm:l.length≤1000000)(h:ld l):l9 k (yN l)=some (l,0):=by
 have:=la l
 rw[Zl hk (by omega) (by omega),Zy h]
theorem NW {k:Nat}(hk:9≤k){n:Int}(h:-9223372036854775808≤n∧n<9223372036854775808):l9 k (qR n)=some ([n],0):=by
 have e:qR n=yN [n]:=by simp[yN]
 rw[e]
 exact Zz hk (by simp;omega) (by simp) fun x hx=>by rw[List.mem_singleton.1 hx];exact h
theorem yW2 {k:Nat}(hk:9≤k){l:AC}(hl:l.length<k)(hm:l.length≤100000)(h:ld l)(b:AC)(hb:b.length≤1000000):H2 k (vM l++b)=some (l,b,true):=by
 have iF:=la l
 have hlen:(vM l++b).length=8+8*l.length+b.length:=by
  rw[List.length_append,vM,List.length_append,iF];rfl
 have t:(vM l++b).take 8=qR (l.length:Int):=rfl
 have d:(vM l++b).drop 8=yN l++b:=rfl
 unfold H2
 rw[ak (by omega),ao,ah (by omega),an,t,NW hk (by omega),aj,d]
 have uy:(yN l++b).length=8*l.length+b.length:=by rw[List.length_append,iF]
 have w1:zA (Int.tdiv ((yN l++b).length:Int) 8)=((l.length+b.length/8:Nat):Int):=by
  rw[uy]
  have:Int.tdiv ((8*l.length+b.length:Nat):Int) 8=(((8*l.length+b.length)/8:Nat):Int):=rfl
  rw[this,qI (by omega) (by omega)]
  congr 1
  omega
 have w2:zA (8*(l.length:Int))=((8*l.length:Nat):Int):=by rw[qI (by omega) (by omega)];omega
 have bd:zD 0 [(l.length:Int)].length=true:=rfl
 simp only[List.getD_cons_zero,bd,an]
 rw[ak (show¬(l.length:Int)<0 by omega),w1,w2,ak (show¬(l.length:Int)>((l.length+b.length/8:Nat):Int) by omega),ah (show(0:Int)≤((8*l.length:Nat):Int) by omega),
  ah (show((8*l.length:Nat):Int)≤((yN l++b).length:Int) by omega),aJ,show List.take (8*l.length) (yN l++b)=yN l from List.take_left' iF,show List.drop (8*l.length) (yN l++b)=b from List.drop_left' iF]
 simp only[an,ao,Bool.and_self]
 rw[Zz hk hl (by omega) h]
 rfl
def uz (b:AC):Int:=fI .i64 (shl .i64 (zA (b.getD 0 0)) 8) (zA (b.getD 1 0))
def Cut (b:AC):Prop:=b.length<2∨uz b>60000∨uz b>(b.length:Int)-2
def wH (l:EQ):AC:=l.flatMap yZ
theorem ZA {r:AC}(hr:r.length≤60000){b:AC}(h0:b.getD 0 0=(yZ r).getD 0 0)(h1:b.getD 1 0=(yZ r).getD 1 0):uz b=(r.length:Int):=by
 unfold uz
 rw[h0,h1]
 have e0:(yZ r).getD 0 0=((r.length/256:Nat):Int):=by
  show IntKind.wrap .u8 (shr .i64 (r.length:Int) 8)=_
  rw[HZ]
  have:shr .i64 (r.length:Int) 8=((r.length/256:Nat):Int):=by
   show(r.length:Int).fdiv (2^8)=_
   rw[Int.fdiv_eq_ediv_of_nonneg _ (by decide)]
   rfl
  rw[this]
  omega
 have e1:(yZ r).getD 1 0=((r.length%256:Nat):Int):=by
  show IntKind.wrap .u8 (r.length:Int)=_
  rw[HZ]
  omega
 rw[e0,e1,qI (by omega) (by omega),qI (by omega) (by omega)]
 have e2:shl .i64 ((r.length/256:Nat):Int) 8=((r.length/256*256:Nat):Int):=by
  show zA (((r.length/256:Nat):Int)*2^8)=_
  rw[show((r.length/256:Nat):Int)*2^8=((r.length/256*256:Nat):Int) by omega]
  exact qI (by omega) (by omega)
 rw[e2]
 show IntKind.wrap .i64 (((BitVec.ofInt 64 ((r.length/256*256:Nat):Int)|||BitVec.ofInt 64 ((r.length%256:Nat):Int)).toNat:Nat):Int)=_
 rw[Zt _ _ (by omega) (by omega)]
 have:=qI (x:=((r.length/256*256+r.length%256:Nat):Int)) (by omega) (by omega)
 unfold zA at this
 rw[this]
 omega
theorem ZB {r:AC}(hr:r.length≤60000){j:Nat}(hj:j<r.length+2):Cut ((yZ r).take j):=by
 have hl:=nF r
 by_cases h:j<2
 ·left
  rw[List.length_take];omega
 ·right;right
  have g:∀i,i<2→((yZ r).take j).getD i 0=(yZ r).getD i 0:=fun i hi=>by
   rw[List.getD_eq_getElem?_getD,List.getD_eq_getElem?_getD,List.getElem?_take_of_lt (by omega)]
  rw[ZA hr (g 0 (by omega)) (g 1 (by omega)),List.length_take]
  omega
theorem uA:Cut []:=.inl (by decide)
theorem ZC {k:Nat}{t:AC}(ht:Cut t)(oL:t.length≤1000000):∀(l:EQ) (n:Nat) (r:EQ),(∀x∈l,x.length≤60000)→l.length<n→(wH l).length≤1000000→r.length+l.length≤1000000→yv k n (wH l++t) r=some (t,r++l)
 |[],n,r,_,hn,_,_=>by
  obtain⟨n,rfl⟩:∃m,n=m+1:=⟨n-1,by omega⟩
  rw[List.append_nil]
  show yw k (yv k n) t r=_
  unfold yw
  by_cases h2:t.length<2
  ·rw[ak (by omega)];rfl
  ·rw[ah (by omega),eI (by omega) (by omega),eI (by omega) (by omega)]
   simp only[an]
   have e:fI .i64 (shl .i64 (zA (t.getD 0 0)) 8) (zA (t.getD 1 0))=uz t:=rfl
   rw[e,qI (x:=(t.length:Int)-2) (by omega) (by omega)]
   by_cases h3:uz t>60000
   ·rw[ah h3];rfl
   ·rw[ak h3,ah (show uz t>(t.length:Int)-2 by rcases ht with h|h|h;exact absurd h h2;exact absurd h h3;exact h)]
    rfl
 |x::l,n,r,hl,hn,hb,hr=>by
  obtain⟨n,rfl⟩:∃m,n=m+1:=⟨n-1,by omega⟩
  have hx:=hl x (List.mem_cons_self ..)
  have ex:wH (x::l)=yZ x++wH l:=by simp[wH]
  have mS:=nF x
  rw[ex,List.length_append] at hb
  have ih:=ZC (k:=k) ht oL l n (r++[x]) (fun y hy=>hl y (List.mem_cons_of_mem _ hy)) (by simp at hn;omega) (by omega) (by rw[List.length_append];simp at hr⊢;omega)
  rw[ex,List.append_assoc]
  obtain⟨B,hB⟩:∃B,wH l++t=B:=⟨_,rfl⟩
  rw[hB] at ih⊢
  have Y8:B.length≤2000000:=by rw[←hB,List.length_append];omega
  have hlen:(yZ x++B).length=x.length+2+B.length:=by rw[List.length_append,mS]
  show yw k (yv k n) (yZ x++B) r=_
  unfold yw
  rw[ah (by omega),eI (by omega) (by omega),eI (by omega) (by omega)]
  simp only[an]
  have e:fI .i64 (shl .i64 (zA ((yZ x++B).getD 0 0)) 8) (zA ((yZ x++B).getD 1 0))=(x.length:Int):=ZA hx rfl rfl
  have hs:qQ (yZ x++B) 2 (x.length+2-2)=x:=by
   unfold qQ
   show List.take (x.length+2-2) (x++B)=x
   exact List.take_left' (by omega)
  have hd:List.drop (x.length+2) (yZ x++B)=B:=List.drop_left' mS
  have w2:zA (2+(x.length:Int))=((x.length+2:Nat):Int):=by rw[qI (by omega) (by omega)];omega
  rw[e,w2,qI (x:=((yZ x++B).length:Int)-2) (by omega) (by omega),ak (show¬(x.length:Int)>60000 by omega),ak (show¬(x.length:Int)>((yZ x++B).length:Int)-2 by omega),aJ,hs,hd,
   ah (show(2:Int)≤((x.length+2:Nat):Int) by omega),ah (show(0:Int)≤((x.length+2:Nat):Int) by omega),ah (show((x.length+2:Nat):Int)≤((yZ x++B).length:Int) by omega),qU (by omega) (by omega),qU (by simp at hr;omega) (by simp at hr;omega)]
  simp only[ao,Bool.and_self,an]
  rw[ih,List.append_assoc]
  rfl
theorem ZD {k:Nat}{t:AC}(ht:Cut t)(oL:t.length≤1000000){l:EQ}(hl:∀x∈l,x.length≤60000)(hn:l.length<k)(hm:l.length≤1000000)(hb:(wH l).length≤1000000):DZ k (wH l++t)=some (l,(t.length:Int)):=by
 unfold DZ
 rw[ZC ht oL l k [] hl hn hb (by simpa using hm)]
 rfl
abbrev qS:=Int×Int×Int
abbrev zC:=Int×Int×Int×Int×Int×Int×Int
def jX (a:qS):Bool:=decide (a.1>-4611686018427387904)&&(decide (a.1<4611686018427387904)&&(decide (a.2.1≥0)&&(decide (a.2.1≤2305843009213693952)&&(decide (a.2.2≥0)&&decide (a.2.2≤2305843009213693952)))))
def vV (n:Int):Bool:=decide (n≥-1)&&decide (n≤2305843009213693952)
def dV (n:Int):Bool:=decide (n>-72057594037927936)&&decide (n<72057594037927936)
def cell (m:EQ)(i j:Nat):Int:=(m.getD i []).getD j 0
def jh (n:Nat)(m:EQ):Bool:=decide (m.length=n)&&qE (fun i=>decide ((m.getD i []).length=n)) n 0
def mb (p:Int→Bool)(n:Nat)(m:EQ):Bool:=qE (fun i=>qE (fun j=>p (cell m i j)) n 0) n 0
def pj (n:Nat)(m:EQ):Bool:=qE (fun i=>qE (fun j=>decide (cell m i j=zA (0-cell m j i))) n 0) n 0
def jk (rT:List qS)(bil:EQ)(mul:AC)(pos:EQ):Bool:=
 let n:=rT.length
 decide (1≤n)&&(decide (n≤6)&&(jh n bil&&(jh n pos&&(decide (mul.length=n)&&(qE (fun i=>jX (rT.getD i (0,0,0))) n 0&&(qE (fun i=>vV (mul.getD i 0)) n 0&&(mb vV n bil&&(mb dV n pos&&pj n pos))))))))
theorem ZE (k:Nat)(b c r:Int):NX k b c r=some (jX (b,c,r)):=by
 unfold NX jX
 cases decide (b>-4611686018427387904)<;>cases decide (b<4611686018427387904)<;>cases decide (c≥0)<;>cases decide (c≤2305843009213693952)<;>cases decide (r≥0)<;>rfl
theorem ZF (k:Nat)(b c r:Int):H3 k b c r=some (jX (b,c,r)):=ZE k b c r
theorem NY (k:Nat)(n:Int):H4 k n=some (vV n):=by
 unfold H4 vV
 cases decide (n≥-1)<;>rfl
theorem vE5 (k:Nat)(n:Int):NZ k n=some (vV n):=NY k n
theorem yZa (k:Nat)(n:Int):H5 k n=some (dV n):=by
 unfold H5 dV
 cases decide (n>-72057594037927936)<;>rfl
theorem ZG {k:Nat}{n:Nat}(hk:n<k)(hn:n≤1000)(m:EQ):H6 k m n=some (jh n m):=by
 unfold H6 jh
 simp only[nB]
 by_cases h:m.length=n
 ·have := ky (L := fun c i => N0 k c m n i) (N := n) (fun i => decide ((m.getD i []).length = n)) (.inl ()) (.inr false) (fun c=>by
    show D4 k _ m n n=_
    unfold D4
    simp only [qJ, ak (Nat.lt_irrefl n), ao]) (fun c i hi=>by
    show D4 k _ m n i=_
    unfold D4
    simp only[qG,qK hi (by omega),qJ,nB,aJ,h,ah hi,an]
    cases decide ((m.getD i []).length=n)<;>rfl) hk
  simp only[h,decide_true,aW,ao,Bool.true_and]
  rw[this]
  generalize qE _ _ _=r
  cases r<;>rfl
 ·simp only[ak h,dg,an,Bool.false_and]
theorem yLs {k:Nat}{N i:Nat}(hk:N<k)(hN:N≤1000)(hi:i<N){a:List qS}{b p:EQ}{m:AC}(hb:b.length=N)(hp:p.length=N)(N1:∀j,j<N→(b.getD j []).length=N)(mc:∀j,j<N→(p.getD j []).length=N):
  H7 k k N i 0 a b m p=some (bif qE (fun j=>vV (cell b i j)&&(dV (cell p i j)&&decide (cell p i j=zA (0-cell p j i)))) N 0 then .inl ((N:Int),(i:Int),a,b,m,p) else .inr false):=by
 refine ky (L:=fun c j=>H7 k c N i j a b m p) (N:=N) _ (.inl ((N:Int),(i:Int),a,b,m,p)) (.inr false) (fun c=>?_) (fun c j hj=>?_) hk
 ·show D5 k _ N i N a b m p=_
  unfold D5
  simp only[qJ,ak (Nat.lt_irrefl N),ao]
 ·show D5 k _ N i j a b m p=_
  unfold D5
  simp only[qG,qK hj (by omega),qJ,aJ,hb,hp,N1 i hi,mc i hi,mc j hj,ah hj,ah hi,an,NY,aj,dV]
  show(bif !vV (cell b i j) then _ else bif decide (cell p i j≤_) then _ else bif decide (cell p i j≥_) then _ else bif !decide (cell p i j=_) then _ else _)=_
  have e1:decide (cell p i j≤-72057594037927936)= !decide (cell p i j>-72057594037927936):=by
   by_cases h:cell p i j≤-72057594037927936
   ·rw[ah h,ak (by omega)];rfl
   ·rw[ak h,ah (by omega)];rfl
  have e2:decide (cell p i j≥72057594037927936)= !decide (cell p i j<72057594037927936):=by
   by_cases h:cell p i j≥72057594037927936
   ·rw[ah h,ak (by omega)];rfl
   ·rw[ak h,ah (by omega)];rfl
  rw[e1,e2]
  show(bif !vV (cell b i j) then _ else bif _ then _ else bif _ then _ else bif !decide (cell p i j=zA (0-cell p j i)) then _ else _)=_
  cases vV (cell b i j)<;>cases decide (cell p i j>-72057594037927936)<;>cases decide (cell p i j<72057594037927936)<;>cases decide (cell p i j=zA (0-cell p j i))<;>rfl
theorem yQ4 {k:Nat}{N:Nat}(hk:N<k)(hN:N≤1000){a:List qS}{b p:EQ}{m:AC}(ha:a.length=N)(hm:m.length=N)(hb:b.length=N)(hp:p.length=N)(N1:∀j,j<N→(b.getD j []).length=N)(mc:∀j,j<N→(p.getD j []).length=N):
  H8 k k N 0 a b m p=some (bif qE (fun i=>jX (a.getD i (0,0,0))&&(vV (m.getD i 0)&&qE (fun j=>vV (cell b i j)&&(dV (cell p i j)&&decide (cell p i j=zA (0-cell p j i)))) N 0)) N 0 then .inl () else .inr false):=by
 refine ky (L:=fun c j=>H8 k c N j a b m p) (N:=N) _ (.inl ()) (.inr false) (fun c=>?_) (fun c i hi=>?_) hk
 ·show D6 k _ N N a b m p=_
  unfold D6
  simp only[qJ,ak (Nat.lt_irrefl N),ao]
 ·show D6 k _ N i a b m p=_
  unfold D6
  simp only[qG,qJ,aJ,ha,hm,ah hi,an,NY,ZE,aj,yLs hk hN hi hb hp N1 mc]
  generalize qE _ N 0=r
  show(bif !jX (a.getD i (0,0,0)) then _ else _)=_
  cases jX (a.getD i (0,0,0))<;>cases vV (m.getD i 0)<;>cases r<;>simp only[aW,dg,an,ao,Bool.and_true,Bool.and_false,Bool.true_and,Bool.false_and,qK hi (show N<9223372036854775808 by omega)]
theorem ySz {k:Nat}(hk:10<k)(a:List qS)(b:EQ)(m:AC)(p:EQ):N2 k a b m p=some (jk a b m p):=by
 unfold N2
 have l1:decide ((a.length:Int)<1)= !decide (1≤a.length):=by
  by_cases h:1≤a.length
  ·rw[ah h,ak (by omega)];rfl
  ·rw[ak h,ah (by omega)];rfl
 have l2:decide ((a.length:Int)>6)= !decide (a.length≤6):=by
  by_cases h:a.length≤6
  ·rw[ah h,ak (by omega)];rfl
  ·rw[ak h,ah (by omega)];rfl
 rw[l1,l2]
 unfold jk
 dsimp only
 by_cases h1:1≤a.length
 case neg=>rw[ak h1];rfl
 by_cases h2:a.length≤6
 case neg=>rw[ah h1,ak h2];rfl
 rw[ah h1,ah h2]
 simp only[aW,ao,Bool.true_and]
 rw[ZG (by omega) (by omega),ZG (by omega) (by omega)]
 simp only[aj,nB]
 cases hb:jh a.length b with
 |false=>rfl
 |true=>
  cases hp:jh a.length p with
  |false=>rfl
  |true=>
   by_cases hm:m.length=a.length
   case neg=>simp only[ak hm];rfl
   simp only[jh,bO,bH,fK] at hb hp
   simp only[hm,decide_true,aW,ao,Bool.true_and]
   rw[yQ4 (by omega) (by omega) rfl hm hb.1 hp.1 hb.2 hp.2]
   have e:(qE (fun i=>jX (a.getD i (0,0,0))) a.length 0&&(qE (fun i=>vV (m.getD i 0)) a.length 0&&(mb vV a.length b&&(mb dV a.length p&&pj a.length p))))=
     qE (fun i=>jX (a.getD i (0,0,0))&&(vV (m.getD i 0)&&qE (fun j=>vV (cell b i j)&&(dV (cell p i j)&&decide (cell p i j=zA (0-cell p j i)))) a.length 0)) a.length 0:=by
    rw[Bool.eq_iff_iff]
    simp only[mb,pj,bO,fK]
    constructor
    ·rintro⟨h1,h2,h3,h4,h5⟩ i hi
     exact⟨h1 i hi,h2 i hi,fun j hj=>⟨h3 i hi j hj,h4 i hi j hj,h5 i hi j hj⟩⟩
    ·intro h
     exact⟨fun i hi=>(h i hi).1,fun i hi=>(h i hi).2.1,fun i hi j hj=>((h i hi).2.2 j hj).1,fun i hi j hj=>((h i hi).2.2 j hj).2.1,fun i hi j hj=>((h i hi).2.2 j hj).2.2⟩
   rw[e]
   generalize qE _ _ _=r
   cases r<;>rfl
theorem vDh {k:Nat}{a:List qS}(hk:a.length<k)(hl:a.length<9223372036854775808):H9 k a=some (!qE (fun i=>jX (a.getD i (0,0,0))) a.length 0):=by
 obtain ⟨x, h1, h2⟩ := rO (L := fun c i => D7 k c a a.length i) (N := a.length) (fun i => !jX (a.getD i (0, 0, 0))) (fun c=>by
  show yx k _ a a.length a.length=_
  unfold yx
  simp only [qJ, ak (Nat.lt_irrefl _), ao]) (fun c i hi=>by
  show yx k _ a a.length i=_
  unfold yx N3
  simp only[qG,qK hi hl,qJ,aJ,ah hi,an,ZF,aj]) hk
 unfold H9 N4
 rw[h1]
 simp only[Bool.not_not] at h2
 rw[←h2]
 cases x<;>rfl
theorem vGi {k:Nat}{a:AC}(hk:a.length<k)(hl:a.length<9223372036854775808):Ia k a=some (!qE (fun i=>vV (a.getD i 0)) a.length 0):=by
 obtain ⟨x, h1, h2⟩ := rO (L := fun c i => D8 k c a a.length i) (N := a.length) (fun i => !vV (a.getD i 0)) (fun c=>by
  show yy k _ a a.length a.length=_
  unfold yy
  simp only [qJ, ak (Nat.lt_irrefl _), ao]) (fun c i hi=>by
  show yy k _ a a.length i=_
  unfold yy N5
  simp only[qG,qK hi hl,qJ,aJ,ah hi,an,vE5,aj]) hk
 unfold Ia N6
 rw[h1]
 simp only[Bool.not_not] at h2
 rw[←h2]
 cases x<;>rfl
theorem yU3 {k:Nat}{a:AC}(hk:a.length<k)(hl:a.length<9223372036854775808):Ib k a=some (!qE (fun i=>dV (a.getD i 0)) a.length 0):=by
 obtain ⟨x, h1, h2⟩ := rO (L := fun c i => D9 k c a a.length i) (N := a.length) (fun i => !dV (a.getD i 0)) (fun c=>by
  show yz k _ a a.length a.length=_
  unfold yz
  simp only [qJ, ak (Nat.lt_irrefl _), ao]) (fun c i hi=>by
  show yz k _ a a.length i=_
  unfold yz N7
  simp only[qG,qK hi hl,qJ,aJ,ah hi,an,yZa,aj]) hk
 unfold Ib N8
 rw[h1]
 simp only[Bool.not_not] at h2
 rw[←h2]
 cases x<;>rfl
theorem ZH {k n:Nat}(hk:n<k)(hn:n≤1000)(a:AC):Ea k a n=some (decide (a.length=n)&&qE (fun i=>vV (a.getD i 0)) n 0):=by
 unfold Ea
 simp only[nB]
 by_cases h:a.length=n
 ·rw[vGi (by omega) (by omega)]
  simp only[h,decide_true,an,aj,Bool.not_not,Bool.true_and]
 ·simp only[ak h,ao,Bool.false_and]
theorem yN4 {k n:Nat}(hk:n<k)(hn:n≤1000)(a:AC):Ic k a n=some (decide (a.length=n)&&qE (fun i=>dV (a.getD i 0)) n 0):=by
 unfold Ic
 simp only[nB]
 by_cases h:a.length=n
 ·rw[yU3 (by omega) (by omega)]
  simp only[h,decide_true,an,aj,Bool.not_not,Bool.true_and]
 ·simp only[ak h,ao,Bool.false_and]
theorem vHk {k n:Nat}(hk:n<k)(hn:n≤1000)(m:EQ):Ie k m n=some (decide (m.length=n)&&qE (fun i=>decide ((m.getD i []).length=n)&&qE (fun j=>vV (cell m i j)) n 0) n 0):=by
 unfold Ie
 simp only[nB]
 by_cases h:m.length=n
 ·have := ky (L := fun c i => Eb k c n m n i) (N := n) (fun i => decide ((m.getD i []).length = n) && qE (fun j => vV (cell m i j)) n 0) (.inl ()) (.inr false) (fun c=>by
    show y7 k _ n m n n=_
    unfold y7
    simp only [qJ, ak (Nat.lt_irrefl n), ao]) (fun c i hi=>by
    show y7 k _ n m n i=_
    unfold y7
    simp only[qG,qK hi (by omega),qJ,aJ,h,ah hi,an,ZH hk hn,aj]
    show(bif !(decide ((m.getD i []).length=n)&&qE (fun j=>vV (cell m i j)) n 0) then _ else _)=_
    generalize (decide ((m.getD i []).length=n)&&qE (fun j=>vV (cell m i j)) n 0)=r
    cases r<;>rfl) hk
  simp only[h,decide_true,aW,ao,Bool.true_and]
  rw[this]
  generalize qE _ _ _=r
  cases r<;>rfl
 ·simp only[ak h,dg,an,Bool.false_and]
theorem vFa {k n:Nat}(hk:n<k)(hn:n≤1000)(m:EQ):Ig k m n=some (decide (m.length=n)&&qE (fun i=>decide ((m.getD i []).length=n)&&qE (fun j=>dV (cell m i j)) n 0) n 0):=by
 unfold Ig
 simp only[nB]
 by_cases h:m.length=n
 ·have := ky (L := fun c i => Ec k c n m n i) (N := n) (fun i => decide ((m.getD i []).length = n) && qE (fun j => dV (cell m i j)) n 0) (.inl ()) (.inr false) (fun c=>by
    show y8 k _ n m n n=_
    unfold y8
    simp only [qJ, ak (Nat.lt_irrefl n), ao]) (fun c i hi=>by
    show y8 k _ n m n i=_
    unfold y8
    simp only[qG,qK hi (by omega),qJ,aJ,h,ah hi,an,yN4 hk hn,aj]
    show(bif !(decide ((m.getD i []).length=n)&&qE (fun j=>dV (cell m i j)) n 0) then _ else _)=_
    generalize (decide ((m.getD i []).length=n)&&qE (fun j=>dV (cell m i j)) n 0)=r
    cases r<;>rfl) hk
  simp only[h,decide_true,aW,ao,Bool.true_and]
  rw[this]
  generalize qE _ _ _=r
  cases r<;>rfl
 ·simp only[ak h,dg,an,Bool.false_and]
theorem vFb {k N i:Nat}(hk:N<k)(hN:N≤1000)(hi:i<N){p q:EQ}{u:Int}(hp:p.length=N)(mc:∀j,j<N→(p.getD j []).length=N):
  y9 k k p i q u i (p.getD i []) N 0=some (bif qE (fun j=>decide (cell p j i=zA (0-cell p i j))) N 0 then .inl (p,q,u,(i:Int)) else .inr false):=by
 refine ky (L:=fun c j=>y9 k c p i q u i (p.getD i []) N j) (N:=N) _ (.inl (p,q,u,(i:Int))) (.inr false) (fun c=>?_) (fun c j hj=>?_) hk
 ·show za k _ p i q u i (p.getD i []) N N=_
  unfold za
  simp only[qJ,ak (Nat.lt_irrefl N),ao]
 ·show za k _ p i q u i (p.getD i []) N j=_
  unfold za
  simp only[qG,qK hj (show N<9223372036854775808 by omega),qJ,aJ,hp,mc i hi,mc j hj,ah hj,ah hi,an]
  show(bif !decide (cell p j i=zA (0-cell p i j)) then _ else _)=_
  generalize decide (cell p j i=zA (0-cell p i j))=r
  cases r<;>rfl
theorem yRv {k N:Nat}(hk:N<k)(hN:N≤1000){p:EQ}(hp:p.length=N)(mc:∀j,j<N→(p.getD j []).length=N):
  Ih k p=some (pj N p):=by
 have := ky (L := fun c i => Ed k c p p N i) (N := N) (fun i => qE (fun j => decide (cell p j i = zA (0 - cell p i j))) N 0) (.inl ()) (.inr false) (fun c=>by
   show zb k _ p p N N=_
   unfold zb
   simp only [qJ, ak (Nat.lt_irrefl N), ao]) (fun c i hi=>by
   show zb k _ p p N i=_
   unfold zb
   simp only[qG,qJ,aJ,hp,mc i hi,ah hi,an,vFb hk hN hi hp mc,aj]
   generalize qE _ N 0=r
   cases r<;>simp only[an,ao,qK hi (show N<9223372036854775808 by omega)]) hk
 unfold Ih
 simp only[hp]
 rw[this]
 have e:qE (fun i=>qE (fun j=>decide (cell p j i=zA (0-cell p i j))) N 0) N 0=pj N p:=by
  rw[Bool.eq_iff_iff]
  simp only[pj,fK]
  exact⟨fun h i hi j hj=>h j hj i hi,fun h i hi j hj=>h j hj i hi⟩
 rw[e]
 generalize pj N p=r
 cases r<;>rfl
theorem ZI {k:Nat}(hk:10<k)(a:List qS)(b:EQ)(m:AC)(p:EQ):uB k a b m p=some (jk a b m p):=by
 unfold uB
 have l1:decide ((a.length:Int)<1)= !decide (1≤a.length):=by
  by_cases h:1≤a.length
  ·rw[ah h,ak (by omega)];rfl
  ·rw[ak h,ah (by omega)];rfl
 have l2:decide ((a.length:Int)>6)= !decide (a.length≤6):=by
  by_cases h:a.length≤6
  ·rw[ah h,ak (by omega)];rfl
  ·rw[ak h,ah (by omega)];rfl
 rw[l1,l2]
 unfold jk
 dsimp only
 by_cases h1:1≤a.length
 case neg=>rw[ak h1];rfl
 by_cases h2:a.length≤6
 case neg=>rw[ah h1,ak h2];rfl
 rw[ah h1,ah h2]
 simp only[aW,ao,Bool.true_and]
 rw[vDh (by omega) (by omega),vHk (by omega) (by omega),ZH (by omega) (by omega),vFa (by omega) (by omega)]
 simp only[aj]
 generalize hA:qE (fun i=>jX (a.getD i (0,0,0))) a.length 0=A
 have sq:∀(q:Int→Bool) (m:EQ),(decide (m.length=a.length)&&qE (fun i=>decide ((m.getD i []).length=a.length)&&qE (fun j=>q (cell m i j)) a.length 0) a.length 0)=(jh a.length m&&mb q a.length m):=by
  intro q m
  rw[Bool.eq_iff_iff]
  simp only[jh,mb,bO,bH,fK]
  exact⟨fun h=>⟨⟨h.1,fun i hi=>(h.2 i hi).1⟩,fun i hi=>(h.2 i hi).2⟩,fun h=>⟨h.1.1,fun i hi=>⟨h.1.2 i hi,h.2 i hi⟩⟩⟩
 rw[sq vV b,sq dV p]
 cases hp:jh a.length p with
 |false=>
  cases A<;>cases jh a.length b<;>cases mb vV a.length b<;>cases decide (m.length=a.length)<;>cases qE (fun i=>vV (m.getD i 0)) a.length 0<;>rfl
 |true=>
  simp only[jh,bO,bH,fK] at hp
  rw[yRv (N:=a.length) (by omega) (by omega) hp.1 hp.2]
  cases A<;>cases jh a.length b<;>cases mb vV a.length b<;>cases decide (m.length=a.length)<;>cases qE (fun i=>vV (m.getD i 0)) a.length 0<;>cases mb dV a.length p<;>cases pj a.length p<;>rfl
theorem ZJ {k N:Nat}{s:EQ}(hN:s.length=N)(hl:N≤1000)(hr:∀i,i<N→(s.getD i []).length≤1000):∀(c i n:Nat),i+c=N→c<n→N9 k n s i (s.take i)=some s
 |0,i,n,h,hn=>by
  obtain⟨n,rfl⟩:∃m,n=m+1:=⟨n-1,by omega⟩
  show Ee k _ s i (s.take i)=_
  unfold Ee
  have:¬i<s.length:=by omega
  simp only[qJ,ak this,ao]
  rw[List.take_of_length_le (by omega)]
 |c+1,i,n,h,hn=>by
  obtain⟨n,rfl⟩:∃m,n=m+1:=⟨n-1,by omega⟩
  show Ee k _ s i (s.take i)=_
  unfold Ee
  have hi:i<s.length:=by omega
  have h1:=hr i (by omega)
  have e1:zY (0+(s.getD i []).length) 8=true:=qU (by omega) (by omega)
  have e2:zY ((s.take i).length+1) 24=true:=qU (by rw[List.length_take];omega) (by rw[List.length_take];omega)
  simp only[qG,qK hi (show s.length<9223372036854775808 by omega),qJ,aJ,ah hi,an,e1,e2]
  rw[dE s i [] hi]
  exact ZJ hN hl hr c (i+1) n (by omega) (by omega)
theorem ZK {k:Nat}{s:EQ}(hl:s.length≤1000)(hk:s.length<k)(hr:∀i,i<s.length→(s.getD i []).length≤1000):Ii k s=some s:=by
 unfold Ii
 have:=ZJ (k:=k) rfl hl hr s.length 0 k (by omega) hk
 rw[List.take_zero] at this
 have e:((0:Nat):Int)=0:=rfl
 rw[e] at this
 rw[this]
 rfl
theorem ZL {k N:Nat}{s:EQ}(hN:s.length=N)(hl:N≤1000)(hr:∀i,i<N→(s.getD i []).length≤1000):∀(c i n:Nat),i+c=N→c<n→Ef k n s N i (s.take i) N=some (s,N)
 |0,i,n,h,hn=>by
  obtain⟨n,rfl⟩:∃m,n=m+1:=⟨n-1,by omega⟩
  show zc k _ s N i (s.take i) N=_
  unfold zc
  have:¬i<N:=by omega
  simp only[qJ,ak this,ao]
  rw[List.take_of_length_le (by omega)]
 |c+1,i,n,h,hn=>by
  obtain⟨n,rfl⟩:∃m,n=m+1:=⟨n-1,by omega⟩
  show zc k _ s N i (s.take i) N=_
  unfold zc me
  have hi:i<N:=by omega
  have h1:=hr i (by omega)
  have e1:zY (0+(s.getD i []).length) 8=true:=qU (by omega) (by omega)
  have e2:Nat.beq i (s.take i).length=true:=by rw[List.length_take,Nat.min_eq_left (by omega)];simp
  simp only[qG,qK hi (show N<9223372036854775808 by omega),qJ,aJ,ah hi,an,e1,e2,hN,aj]
  rw[dE s i [] (by omega)]
  exact ZL hN hl hr c (i+1) n (by omega) (by omega)
theorem ZM {k:Nat}{s:EQ}(hl:s.length≤1000)(hk:s.length<k)(hr:∀i,i<s.length→(s.getD i []).length≤1000):Eg k s=some s:=by
 unfold Eg Oa
 have:=ZL (k:=k) rfl hl hr s.length 0 k (by omega) hk
 rw[List.take_zero] at this
 have e:((0:Nat):Int)=0:=rfl
 rw[e] at this
 have e1:zY (0+s.length) 24=true:=qU (by omega) (by omega)
 simp only[e1,an,aj]
 rw[this]
 simp only[aj,yT8]
 simp
structure Sized (a:List qS) (b:EQ) (m:AC) (p:EQ):Prop where
 n1:1≤a.length
 n6:a.length≤6
 bl:b.length=a.length
 br:∀i,i<a.length→(b.getD i []).length=a.length
 ml:m.length=a.length
 pl:p.length=a.length
 pr:∀i,i<a.length→(p.getD i []).length=a.length
structure wL (a:List qS) (b:EQ) (m:AC) (p:EQ):Prop extends Sized a b m p where
 acct:∀i,i<a.length→jX (a.getD i (0,0,0))=true
 mul:∀i,i<a.length→vV (m.getD i 0)=true
 bil:∀i,i<a.length→∀j,j<a.length→vV (cell b i j)=true
 net:∀i,i<a.length→∀j,j<a.length→dV (cell p i j)=true
 turn:∀i,i<a.length→∀j,j<a.length→cell p i j=zA (0-cell p j i)
theorem Ij {a:List qS}{b:EQ}{m:AC}{p:EQ}:jk a b m p=true↔wL a b m p:=by
 unfold jk
 simp only[bO,bH,jh,mb,pj,fK]
 constructor
 ·rintro⟨h1,h2,⟨h3,h4⟩,⟨h5,h6⟩,h7,h8,h9,Eh,Ei,h12⟩
  exact{n1:=h1,n6:=h2,bl:=h3,br:=h4,ml:=h7,pl:=h5,pr:=h6,acct:=h8,mul:=h9,bil:=Eh,net:=Ei,turn:=h12}
 ·intro h
  exact⟨h.n1,h.n6,⟨h.bl,h.br⟩,⟨h.pl,h.pr⟩,h.ml,h.acct,h.mul,h.bil,h.net,h.turn⟩
theorem yMe {k:Nat}(hk:10<k){a:List qS}{b:EQ}{m:AC}{p:EQ}(h:Sized a b m p):Ob k a b m p=some (a,b,m,p):=by
 obtain⟨h1,h2,h3,h4,h5,h6,h7⟩:=h
 unfold Ob
 have e1:zY (0+a.length) 24=true:=qU (by omega) (by omega)
 have e2:zY (0+m.length) 8=true:=qU (by omega) (by omega)
 rw[ZK (s:=b) (by omega) (by omega) (fun i hi=>by rw[h4 i (by omega)];omega),ZK (s:=p) (by omega) (by omega) (fun i hi=>by rw[h7 i (by omega)];omega)]
 simp only[e1,e2,an,aj]
theorem Ej {k:Nat}(hk:10<k){a:List qS}{b:EQ}{m:AC}{p:EQ}(h:Sized a b m p):dG k a b m p=some (a,b,m,p):=by
 obtain⟨h1,h2,h3,h4,h5,h6,h7⟩:=h
 unfold dG Oc me
 have e1:zY (0+a.length) 24=true:=qU (by omega) (by omega)
 have e2:zY (0+m.length) 8=true:=qU (by omega) (by omega)
 rw[ZM (s:=b) (by omega) (by omega) (fun i hi=>by rw[h4 i (by omega)];omega),ZM (s:=p) (by omega) (by omega) (fun i hi=>by rw[h7 i (by omega)];omega)]
 simp only[e1,e2,an,aj]
theorem Ik {α:Type}(d:α)[DecidableEq α]{a b:List α}(h:a.length=b.length):qE (fun i=>decide (a.getD i d=b.getD i d)) a.length 0=decide (a=b):=by
 rw[Bool.eq_iff_iff,fK]
 simp only[bH]
 exact⟨fun h'=>DS d h h',fun h'=>by subst h';exact fun i hi=>rfl⟩
theorem Il {k:Nat}{a b:AC}(hk:a.length<k)(hl:a.length<9223372036854775808):pn k a b=some (decide (a=b)):=by
 unfold pn
 simp only[nB]
 by_cases h:a.length=b.length
 ·have := ky (L := fun c i => Ek k c a b i) (N := a.length) (fun i => decide (a.getD i 0 = b.getD i 0)) (.inl ()) (.inr false) (fun c=>by
    show zd k _ a b a.length=_
    unfold zd
    simp only [qJ, ak (Nat.lt_irrefl _), ao]) (fun c i hi=>by
    show zd k _ a b i=_
    unfold zd
    simp only[qG,qK hi hl,qJ,aJ,←h,ah hi,an]
    cases decide (a.getD i 0=b.getD i 0)<;>rfl) hk
  rw[Ik 0 h] at this
  simp only[h,decide_true,aW,ao]
  rw[this]
  cases decide (a=b)<;>rfl
 ·simp only[ak h,dg,an]
  rw[ak fun e=>h (by rw[e])]
theorem Od {k:Nat}{a b:EQ}(hk:a.length<k)(hl:a.length<9223372036854775808)(hr:∀i,i<a.length→(a.getD i []).length<k∧(a.getD i []).length<9223372036854775808):uC k a b=some (decide (a=b)):=by
 unfold uC
 simp only[nB]
 by_cases h:a.length=b.length
 ·have := ky (L := fun c i => El k c a b i) (N := a.length) (fun i => decide (a.getD i [] = b.getD i [])) (.inl ()) (.inr false) (fun c=>by
    show ze k _ a b a.length=_
    unfold ze
    simp only [qJ, ak (Nat.lt_irrefl _), ao]) (fun c i hi=>by
    show ze k _ a b i=_
    unfold ze
    simp only[qG,qK hi hl,qJ,aJ,←h,ah hi,an,Il (hr i hi).1 (hr i hi).2,aj]
    cases decide (a.getD i []=b.getD i [])<;>rfl) hk
  rw[Ik [] h] at this
  simp only[h,decide_true,aW,ao]
  rw[this]
  cases decide (a=b)<;>rfl
 ·simp only[ak h,dg,an]
  rw[ak fun e=>h (by rw[e])]
theorem vDg {k:Nat}(hk:10<k){a:List qS}{b:EQ}{m:AC}{p:EQ}(h:Sized a b m p)(a':List qS)(b':EQ)(m':AC)(p':EQ):
  Em k a b m p a' b' m' p'=some (decide (a=a')&&(decide (b=b')&&(decide (p=p')&&decide (m=m')))):=by
 obtain⟨h1,h2,h3,h4,h5,h6,h7⟩:=h
 unfold Em
 simp only[nB]
 by_cases hl:a.length=a'.length
 ·rw[Od (a:=b) (by omega) (by omega) (fun i hi=>by rw[h4 i (by omega)];omega),Od (a:=p) (by omega) (by omega) (fun i hi=>by rw[h7 i (by omega)];omega),Il (by omega) (by omega)]
  have := ky (L := fun c i => En k c i a b m p a' b' m' p') (N := a.length) (fun i => decide (a.getD i (0, 0, 0) = a'.getD i (0, 0, 0))) (.inl ()) (.inr false) (fun c=>by
    show zg k _ a.length a b m p a' b' m' p'=_
    unfold zg
    simp only [qJ, ak (Nat.lt_irrefl _), ao]) (fun c i hi=>by
    show zg k _ i a b m p a' b' m' p'=_
    unfold zg
    simp only[qG,qK hi (show a.length<9223372036854775808 by omega),qJ,aJ,←hl,ah hi,an]
    have e:decide (a.getD i (0,0,0)=a'.getD i (0,0,0))=(decide ((a.getD i (0,0,0)).1=(a'.getD i (0,0,0)).1)&&(decide ((a.getD i (0,0,0)).2.1=(a'.getD i (0,0,0)).2.1)&&decide ((a.getD i (0,0,0)).2.2=(a'.getD i (0,0,0)).2.2))):=by
     rw[Bool.eq_iff_iff]
     simp only[bO,bH]
     exact⟨fun h=>by rw[h];exact⟨rfl,rfl,rfl⟩,fun h=>Prod.ext h.1 (Prod.ext h.2.1 h.2.2)⟩
    rw[e]
    generalize (decide ((a.getD i (0,0,0)).1=(a'.getD i (0,0,0)).1)&&_)=r
    cases r<;>rfl) (show a.length<k by omega)
  rw[Ik (0,0,0) hl] at this
  simp only[hl,decide_true,aW,ao,aj]
  have e0:((0:Nat):Int)=0:=rfl
  rw[this]
  cases decide (b=b')<;>cases decide (p=p')<;>cases decide (m=m')<;>cases decide (a=a')<;>rfl
 ·simp only[ak hl,dg,an]
  rw[ak fun e=>hl (by rw[e])]
  rfl
abbrev pd:zC:=(0,(0,(0,(0,(0,(0,0))))))
abbrev ad:qS:=(0,(0,0))
def mf (n:Nat)(p:zC):Bool:=decide (p.2.1≥0)&&(decide (p.2.1<(n:Int))&&(decide (p.2.2.1≥0)&&(decide (p.2.2.1<(n:Int))&&(!decide (p.2.1=p.2.2.1)&&(decide (p.2.2.2.1≥1)&&(decide (p.2.2.2.1≤1099511627776)&&(decide (p.2.2.2.2.1≥1)&&decide (p.2.2.2.2.1≤3))))))))
structure yM (n:Nat) (p:zC):Prop where
 f0:0≤p.2.1
 f1:p.2.1<n
 t0:0≤p.2.2.1
 t1:p.2.2.1<n
 ne:p.2.1≠p.2.2.1
 a1:1≤p.2.2.2.1
 a2:p.2.2.2.1≤1099511627776
 c1:1≤p.2.2.2.2.1
 c3:p.2.2.2.2.1≤3
theorem Oe {n p}:mf n p=true↔yM n p:=by
 unfold mf
 simp
 exact⟨fun⟨h1,h2,h3,h4,h5,h6,h7,h8,h9⟩=>⟨h1,h2,h3,h4,h5,h6,h7,h8,h9⟩,fun⟨h1,h2,h3,h4,h5,h6,h7,h8,h9⟩=>by grind⟩
theorem Im k (a:List qS) b m p i f t am c s ti:zh k a b m p i f t am c s ti=some (mf a.length (i,f,t,am,c,s,ti)):=by
 unfold zh mf
 grind
theorem yYe k (a:List qS) b m p i f t am c s ti:ZN k a b m p i f t am c s ti=some (mf a.length (i,f,t,am,c,s,ti)):=Im k a b m p i f t am c s ti
def lf (n:Nat)(l:List zC):Bool:=qE (fun i=>mf n (l.getD i pd)) l.length 0
theorem zi {n l}:lf n l=true↔∀p∈l,yM n p:=by
 unfold lf
 rw[fK]
 constructor
 ·intro h p hp
  obtain⟨i,hi,rfl⟩:=List.getElem_of_mem hp
  have:=h i hi
  rw[List.getD_eq_getElem?_getD,List.getElem?_eq_getElem hi] at this
  exact Oe.1 this
 ·intro h i hi
  exact Oe.2 (by grind)
theorem yMw {k}{l:List zC}(hk:l.length<k)(hl:l.length<9223372036854775808)(a:List qS) b m p:Io k l a b m p=some (!lf a.length l):=by
 obtain ⟨x, h1, h2⟩ := rO (L := fun c i => Eo k c l l.length i a b m p) (N := l.length) (fun i => !mf a.length (l.getD i pd)) (fun c=>by
  show zj k _ l l.length l.length a b m p=_
  unfold zj
  simp) (fun c i hi=>by
  show zj k _ l l.length i a b m p=_
  unfold zj Of
  simp[qG,qK hi hl,ah hi,Im]) hk
 unfold Io Og
 unfold lf
 grind
theorem vFy {k}{l:List zC}(hk:l.length<k)(hl:l.length<9223372036854775808)(a:List qS) b m p:Oh k a b m p l=some (lf a.length l&&decide (l.length≤64)):=by
 unfold Oh
 have := ky (L := fun c i => Oi k c l i a b m p) (N := l.length) (fun i => mf a.length (l.getD i pd)) (.inl l) (.inr false) (fun c=>by
  show Ep k _ l l.length a b m p=_
  unfold Ep
  simp) (fun c i hi=>by
  show Ep k _ l i a b m p=_
  unfold Ep
  simp only[qG,qK hi hl,qJ,ah hi,yYe]
  simp) hk
 unfold lf
 have e:decide (((l.length:Nat):Int)≤64)=decide (l.length≤64):=by
  grind
 grind
def gB (i:Nat)(p:zC):Int:=(if p.2.2.1=i then p.2.2.2.1 else 0)-(if p.2.1=i then p.2.2.2.1 else 0)
def gS (i j:Nat)(p:zC):Int:=if p.2.1=i∧p.2.2.1=j then p.2.2.2.1 else 0
def gR (i:Nat)(p:zC):Int:=if p.2.1=i∧p.2.2.2.2.1≠3 then p.2.2.2.1 else 0
def wG (r s:Int):Int:=if s≥r then 0 else r-s
theorem yWn {r s t}(hs:0≤s)(ht:0≤t):wG (wG r s) t=wG r (s+t):=by
 unfold wG
 omega
theorem Oj {r}(hr:0≤r):wG r 0=r:=by
 unfold wG
 omega
theorem yY8 {r s}:0≤wG r s:=by
 unfold wG
 omega
theorem vFq {r s}(hr:0≤r)(hs:0≤s):wG r s≤r:=by
 unfold wG
 omega
section
variable {n:Nat} {p:zC}
theorem yPh (h:yM n p) i:-1099511627776≤gB i p∧gB i p≤1099511627776:=by
 have h1:=h.a1;have h2:=h.a2;unfold gB
 omega
theorem Ol (h:yM n p) i j:0≤gS i j p∧gS i j p≤1099511627776:=by
 have h1:=h.a1;have h2:=h.a2
 unfold gS
 omega
theorem Ip (h:yM n p) i:0≤gR i p∧gR i p≤1099511627776:=by
 have h1:=h.a1;have h2:=h.a2
 unfold gR
 omega
end
def wB (n:Nat)(l:List zC):Prop:=(∀p∈l,yM n p)∧l.length≤64
theorem Om {n l}(h:wB n l) i:-70368744177664≤zL (gB i) l∧zL (gB i) l≤70368744177664:=by
 have h1:=yh (g:=gB i) (A:=1099511627776) fun p hp=>yPh (h.1 p hp) i
 have h2:=h.2
 omega
theorem pq {n l}(h:wB n l) i j:0≤zL (gS i j) l∧zL (gS i j) l≤70368744177664:=by
 have h1:=yh (g:=gS i j) (A:=1099511627776) fun p hp=>by have:=Ol (h.1 p hp) i j;omega
 have h0:=rP (g:=gS i j) fun p hp=>(Ol (h.1 p hp) i j).1
 have h2:=h.2
 omega
theorem zk {n l}(h:wB n l) i:0≤zL (gR i) l∧zL (gR i) l≤70368744177664:=by
 have h1:=yh (g:=gR i) (A:=1099511627776) fun p hp=>by have:=Ip (h.1 p hp) i;omega
 have h0:=rP (g:=gR i) fun p hp=>(Ip (h.1 p hp) i).1
 have h2:=h.2
 omega
theorem wB.take {n l}(h:wB n l) i:wB n (l.take i):=⟨fun p hp=>h.1 p (by grind),by rw[List.length_take];have:=h.2;omega⟩
structure pt (n:Nat) (a:List qS) (p:EQ) (l:List zC) (a':List qS) (p':EQ):Prop where
 al:a'.length=n
 acct:∀i,i<n→a'.getD i ad=((a.getD i ad).1+zL (gB i) l,(a.getD i ad).2.1,wG (a.getD i ad).2.2 (zL (gR i) l))
 pl:p'.length=n
 pr:∀i,i<n→(p'.getD i []).length=n
 cell:∀i,i<n→∀j,j<n→cell p' i j=cell p i j+zL (gS i j) l-zL (gS j i) l
theorem yTl {n p q}(hp:p.length=n)(hq:q.length=n)(mc:∀i,i<n→(p.getD i []).length=n)(hqr:∀i,i<n→(q.getD i []).length=n)(h:∀i,i<n→∀j,j<n→cell p i j=cell q i j):p=q:=
 DS [] (by omega) fun i hi=>DS 0 (by simp_all) fun j hj=>h i (by omega) j (by simp_all)
theorem pt.same {n a a1 a2 p p1 p2 l}(x:pt n a p l a1 p1)(y:pt n a p l a2 p2):a1=a2∧p1=p2:=
 ⟨DS ad (by rw[x.al,y.al]) fun i hi=>by have:=x.al;rw[x.acct i (by omega),y.acct i (by omega)],
  yTl x.pl y.pl x.pr y.pr fun i hi j hj=>by rw[x.cell i hi j hj,y.cell i hi j hj]⟩
structure Iq (n:Nat) (a:List qS) (p:EQ):Prop where
 al:a.length=n
 pl:p.length=n
 pr:∀i,i<n→(p.getD i []).length=n
 bal:∀i,i<n→-4611686018427387904<(a.getD i ad).1∧(a.getD i ad).1<4611686018427387904
 res:∀i,i<n→0≤(a.getD i ad).2.2∧(a.getD i ad).2.2≤2305843009213693952
 net:∀i,i<n→∀j,j<n→-72057594037927936<cell p i j∧cell p i j<72057594037927936
theorem wL.nums {a b m p}(h:wL a b m p):Iq a.length a p where
 al:=rfl
 pl:=h.pl
 pr:=h.pr
 bal:=fun i hi=>by
  have:=h.acct i hi
  show-4611686018427387904<(a.getD i (0,0,0)).1∧(a.getD i (0,0,0)).1<4611686018427387904
  simp only[jX,bO,bH] at this
  omega
 res:=fun i hi=>by
  have:=h.acct i hi
  show 0≤(a.getD i (0,0,0)).2.2∧(a.getD i (0,0,0)).2.2≤2305843009213693952
  simp only[jX,bO,bH] at this
  omega
 net:=fun i hi j hj=>by
  have:=h.net i hi j hj
  simp[dV] at this
  omega
theorem On {m f t i j x}(hf:f<m.length)(ht:t<(m.getD f []).length):cell (m.set f ((m.getD f []).set t x)) i j=if i=f∧j=t then x else cell m i j:=by
 unfold cell
 grind
theorem Ir {n}{m:EQ}{f t x}(hm:m.length=n)(hr:∀i,i<n→(m.getD i []).length=n)(hf:f<n):∀i,i<n→((m.set f ((m.getD f []).set t x)).getD i []).length=n:=by
 grind
def zl (p:zC)(r:List qS):List qS:=
 let y0:=r.set p.2.1.toNat (zA ((r.getD p.2.1.toNat ad).1-p.2.2.2.1),(r.getD p.2.1.toNat ad).2)
 let y1:=y0.set p.2.2.1.toNat (zA ((y0.getD p.2.2.1.toNat ad).1+p.2.2.2.1),(y0.getD p.2.2.1.toNat ad).2)
 bif !decide (p.2.2.2.2.1=3) then y1.set p.2.1.toNat ((y1.getD p.2.1.toNat ad).1,((y1.getD p.2.1.toNat ad).2.1,vP false (zA ((y1.getD p.2.1.toNat ad).2.2-p.2.2.2.1)) 0)) else y1
def rU (p:zC)(m:EQ):EQ:=
 let y3:=m.set p.2.1.toNat ((m.getD p.2.1.toNat []).set p.2.2.1.toNat (zA ((m.getD p.2.1.toNat []).getD p.2.2.1.toNat 0+p.2.2.2.1)))
 y3.set p.2.2.1.toNat ((y3.getD p.2.2.1.toNat []).set p.2.1.toNat (zA ((y3.getD p.2.2.1.toNat []).getD p.2.1.toNat 0-p.2.2.2.1)))
theorem vH1 p r:(zl p r).length=r.length:=by
 unfold zl
 grind
theorem ySu {n p}(h:yM n p){r}(hr:r.length=n){i}(hi:i<n)(hb:∀i,i<n→-4611826755915743232<(r.getD i ad).1∧(r.getD i ad).1<4611826755915743232)
  (hz:∀i,i<n→0≤(r.getD i ad).2.2∧(r.getD i ad).2.2≤2305843009213693952):(zl p r).getD i ad=((r.getD i ad).1+gB i p,(r.getD i ad).2.1,wG (r.getD i ad).2.2 (gR i p)):=by
 obtain⟨f0,f1,t0,t1,ne,a1,a2,c1,c3⟩:=h
 obtain⟨f,hf⟩:∃f:Nat,p.2.1=f:=⟨p.2.1.toNat,by omega⟩
 obtain⟨t,ht⟩:∃t:Nat,p.2.2.1=t:=⟨p.2.2.1.toNat,by omega⟩
 have Is:f≠t:=by omega
 have eK:f<n:=by omega
 have dW:t<n:=by omega
 have bf:=hb f eK
 have bt:=hb t dW
 have zf:=hz f eK
 have e1:(r.set f (zA ((r.getD f ad).1-p.2.2.2.1),(r.getD f ad).2)).getD t ad=r.getD t ad:=by rw[jQ,if_neg (fun e=>Is e.1)]
 have key:∀j,j<n→((r.set f (zA ((r.getD f ad).1-p.2.2.2.1),(r.getD f ad).2)).set t (zA ((r.getD t ad).1+p.2.2.2.1),(r.getD t ad).2)).getD j ad=((r.getD j ad).1+gB j p,(r.getD j ad).2):=by
  intro j hj
  unfold gB
  rw[hf,ht,jQ]
  by_cases ZO:t=j
  ·subst ZO
   rw[if_pos (by grind),if_pos rfl,if_neg (by omega),qI (by omega) (by omega)]
   simp
  ·rw[if_neg (fun e=>ZO e.1),if_neg (by omega),jQ]
   by_cases ZP:f=j
   ·subst ZP
    rw[if_pos ⟨rfl,by omega⟩,if_pos rfl,qI (by omega) (by omega)]
    simp only[Int.zero_sub];rfl
   ·rw[if_neg (fun e=>ZP e.1),if_neg (by omega)]
    simp
 unfold zl
 simp only[hf,ht,aJ,e1]
 unfold gR
 cases hc:decide (p.2.2.2.2.1=3) with
 |true=>
  have hY:p.2.2.2.2.1=3:=by simpa using hc
  simp only[aW,ao]
  rw[key i hi,if_neg (fun e=>e.2 hY),Oj (hz i hi).1]
 |false=>
  have hY:p.2.2.2.2.1≠3:=by simpa using hc
  simp only[dg,an]
  rw[jQ]
  by_cases ZQ:f=i
  ·subst ZQ
   rw[if_pos (by grind),key f eK,if_pos ⟨hf,hY⟩]
   have:vP false (zA ((r.getD f ad).2.2-p.2.2.2.1)) 0=wG (r.getD f ad).2.2 p.2.2.2.1:=by
    rw[qI (by omega) (by omega)]
    unfold vP wG
    grind
   rw[this]
  ·rw[if_neg (fun e=>ZQ e.1),key i hi,if_neg (by omega),Oj (hz i hi).1]
theorem ZR {n:Nat}{p:zC}(h:yM n p){m:EQ}(hm:m.length=n)(hr:∀i,i<n→(m.getD i []).length=n)(hb:∀i,i<n→∀j,j<n→-72128000000000000<cell m i j∧cell m i j<72128000000000000):
  (rU p m).length=n∧(∀i,i<n→((rU p m).getD i []).length=n)∧∀i,i<n→∀j,j<n→cell (rU p m) i j=cell m i j+gS i j p-gS j i p:=by
 obtain⟨f0,f1,t0,t1,ne,a1,a2,c1,c3⟩:=h
 obtain⟨f,hf⟩:∃f:Nat,p.2.1=f:=⟨p.2.1.toNat,by omega⟩
 obtain⟨t,ht⟩:∃t:Nat,p.2.2.1=t:=⟨p.2.2.1.toNat,by omega⟩
 have Is:f≠t:=by omega
 have eK:f<n:=by omega
 have dW:t<n:=by omega
 unfold rU
 simp only[hf,ht,aJ]
 have r1:=Ir (x:=zA ((m.getD f []).getD t 0+p.2.2.2.1)) (t:=t) hm hr eK
 have c1:∀i j,cell (m.set f ((m.getD f []).set t (zA ((m.getD f []).getD t 0+p.2.2.2.1)))) i j=if i=f∧j=t then zA (cell m f t+p.2.2.2.1) else cell m i j:=fun i j=>On (by omega) (by rw[hr f eK];omega)
 refine⟨by simp only[List.length_set];exact hm,by grind,fun i hi j hj=>?_⟩
 rw[On (by rw[List.length_set];omega) (by rw[r1 t dW];omega)]
 have e2:((m.set f ((m.getD f []).set t (zA ((m.getD f []).getD t 0+p.2.2.2.1)))).getD t []).getD f 0=cell m t f:=by
  show cell _ t f=_
  simp_all
 rw[e2,c1]
 unfold gS
 rw[hf,ht]
 have b1:=hb f eK t dW
 have b2:=hb t dW f eK
 by_cases h1:i=t∧j=f
 ·obtain⟨rfl,rfl⟩:=h1
  rw[if_pos ⟨rfl,rfl⟩,if_neg (by omega),if_pos ⟨rfl,rfl⟩,qI (by omega) (by omega)]
  omega
 ·rw[if_neg h1]
  by_cases h2:i=f∧j=t
  ·obtain⟨rfl,rfl⟩:=h2
   rw[if_pos ⟨rfl,rfl⟩,if_pos ⟨rfl,rfl⟩,if_neg (by omega),qI (by omega) (by omega)]
   omega
  omega
theorem yTj {k n a b m p l}(hk:l.length<k)(hx:Iq n a p)(hl:wB n l)(b0:List qS) b1 b2 b3:
  ∃a' p',zm k k l l.length 0 b0 b1 b2 b3 a b m p=some (b0,b1,b2,b3,a',b,m,p')∧pt n a p l a' p':=by
 have := wE (L := fun c i (s : List qS × EQ) => zm k c l l.length i b0 b1 b2 b3 s.1 b m s.2) (N := l.length) (fun s => (b0, b1, b2, b3, s.1, b, m, s.2)) (fun i s => pt n a p (l.take i) s.1 s.2) (fun c s hs=>by
   show zn k _ l l.length l.length b0 b1 b2 b3 s.1 b m s.2=_
   unfold zn
   simp) (fun c i s hi hs=>by
   refine⟨(zl (l.getD i pd) s.1,rU (l.getD i pd) s.2),?_,?_⟩
   ·show zn k _ l l.length i b0 b1 b2 b3 s.1 b m s.2=_
    have bC:yM n (l.getD i pd):=hl.1 _ (jY hi)
    unfold zn zl rU
    have kz:=hl.2
    simp only[qG,qK hi (by grind),qJ,aJ,ah hi,an]
    obtain⟨f0,f1,t0,t1,ne,a1,a2,c1,c3⟩:=bC
    obtain⟨f,hf⟩:∃f:Nat,(l.getD i pd).2.1=f:=⟨(l.getD i pd).2.1.toNat,by omega⟩
    obtain⟨t,ht⟩:∃t:Nat,(l.getD i pd).2.2.1=t:=⟨(l.getD i pd).2.2.1.toNat,by omega⟩
    have eK:f<n:=by omega
    have dW:t<n:=by omega
    have r1:=Ir (x:=zA ((s.2.getD f []).getD t 0+(l.getD i pd).2.2.2.1)) (t:=t) hs.pl hs.pr eK
    simp only[hf,ht,aJ,qG,hs.al,hs.pl,List.length_set,hs.pr f eK,r1 t dW,ah eK,ah dW,an,rV,aj]
    grind
   ·have bC:yM n (l.getD i pd):=hl.1 _ (jY hi)
    have aL:=hl.take i
    have hp := ZR bC hs.pl hs.pr (fun i' bj j' iW=>by
     rw[hs.cell i' bj j' iW]
     have h1:=hx.net i' bj j' iW
     have h2:=pq aL i' j'
     have h3:=pq aL j' i'
     omega)
    refine⟨by rw[vH1];exact hs.al,fun i' bj=>?_,hp.1,hp.2.1,fun i' bj j' iW=>?_⟩
    ·rw [ySu bC hs.al bj (fun j hj=>by
       rw[hs.acct j hj]
       have h1:=hx.bal j hj
       have h2:=Om aL j
       dsimp only
       omega) (fun j hj=>by
       rw[hs.acct j hj]
       have h1:=hx.res j hj
       have h2:=zk aL j
       dsimp only
       exact⟨yY8,Int.le_trans (vFq h1.1 h2.1) h1.2⟩),hs.acct i' bj,←dE l i pd hi,iE,iE]
     dsimp only[zL]
     rw[yWn (zk aL i').1 (Ip bC i').1,Int.add_zero,Int.add_zero,Int.add_assoc]
    ·rw[hp.2.2 i' bj j' iW,hs.cell i' bj j' iW,←dE l i pd hi,iE,iE]
     dsimp only[zL]
     omega) (s:=(a,p)) hk ⟨hx.al,fun i hi=>by
      rw[List.take_zero]
      show a.getD i ad=((a.getD i ad).1+0,(a.getD i ad).2.1,wG (a.getD i ad).2.2 0)
      rw[Oj (hx.res i hi).1,Int.add_zero],hx.pl,hx.pr,fun i hi j hj=>by
      rw[List.take_zero]
      show cell p i j=cell p i j+0-0
      omega⟩
 simp_all
theorem ZS {k n l}(hk:l.length<k)(hl:wB n l)(i j:Nat):Iu k l i j=some (zL (gS i j) l):=by
 have kz:=hl.2
 obtain ⟨s, h1, h2⟩ := wE (L := fun c x (s : Int) => Oo k c l i j s x) (N := l.length) (fun s => s) (fun x s => s = zL (gS i j) (l.take x)) (fun c s hs=>by
   show Er k _ l i j s l.length=_
   unfold Er
   simp) (fun c x s hx hs=>by
   refine⟨zL (gS i j) (l.take (x+1)),?_,rfl⟩
   show Er k _ l i j s x=_
   have hb:=pq (hl.take x) i j
   have hm:yM n (l.getD x pd):=hl.1 _ (by grind)
   have e:zL (gS i j) (l.take (x+1))=s+gS i j (l.getD x pd):=by
    rw[←dE l x pd hx,iE,hs]
    show _+(_+0)=_
    omega
   have w:=qI (x:=s+(l.getD x pd).2.2.2.1) (by have:=hm.a1;omega) (by have:=hm.a2;omega)
   unfold Er
   simp[qG,qK hx (by grind)]
   rw[e]
   unfold gS
   grind) (s:=0) hk rfl
 unfold Iu
 simp_all
theorem yT6 {k n l}(hk:l.length<k)(hl:wB n l)(i j:Nat):Oq k l i j=some (zL (gS i j) l-zL (gS j i) l):=by
 unfold Oq
 rw[ZS hk hl i j,ZS hk hl j i]
 have h1:=pq hl i j
 have h2:=pq hl j i
 simp
 rw[qI (by omega) (by omega)]
def gN (i:Nat)(p:zC):Int:=if p.2.1=i∧p.2.2.2.2.1=3 then p.2.2.2.1 else 0
theorem Iv {n p}(h:yM n p) i:0≤gN i p∧gN i p≤1099511627776:=by
 have h1:=h.a1;have h2:=h.a2
 unfold gN
 omega
theorem vIp {n l}(h:wB n l) i:0≤zL (gN i) l∧zL (gN i) l≤70368744177664:=by
 have h1:=yh (g:=gN i) (A:=1099511627776) fun p hp=>by have:=Iv (h.1 p hp) i;omega
 have h0:=rP (g:=gN i) fun p hp=>(Iv (h.1 p hp) i).1
 have h2:=h.2
 omega
theorem yW5 {k n:Nat}{l}(hk:l.length<k)(hl:wB n l)(i:Nat):Ot k l i=some (zL (gN i) l,zL (gR i) l):=by
 have kz:=hl.2
 obtain ⟨s, h1, h2⟩ := wE (L := fun c x (s : Int × Int) => Ou k c l i s.1 s.2 x) (N := l.length) (fun s => s) (fun x s => s = (zL (gN i) (l.take x), zL (gR i) (l.take x))) (fun c s hs=>by
   show Es k _ l i s.1 s.2 l.length=_
   unfold Es
   simp) (fun c x s hx hs=>by
   refine⟨(zL (gN i) (l.take (x+1)),zL (gR i) (l.take (x+1))),?_,rfl⟩
   show Es k _ l i s.1 s.2 x=_
   have hb:=vIp (hl.take x) i
   have bh:=zk (hl.take x) i
   have hm:yM n (l.getD x pd):=hl.1 _ (by grind)
   have e:zL (gN i) (l.take (x+1))=s.1+gN i (l.getD x pd):=by
    rw[←dE l x pd hx,iE,hs]
    show _+(_+0)=_
    omega
   have e':zL (gR i) (l.take (x+1))=s.2+gR i (l.getD x pd):=by
    rw[←dE l x pd hx,iE,hs]
    show _+(_+0)=_
    omega
   have w:=qI (x:=s.1+(l.getD x pd).2.2.2.1) (by have:=hm.a1;grind) (by have:=hm.a2;grind)
   have w':=qI (x:=s.2+(l.getD x pd).2.2.2.1) (by have:=hm.a1;rw[hs];omega) (by have:=hm.a2;grind)
   unfold Es
   simp only[qG,qK hx (by grind),qJ,an]
   rw[e,e']
   unfold gN gR
   grind) (s:=(0,0)) hk rfl
 unfold Ot
 simp_all
theorem vEn {k n l}(hk:l.length<k)(hl:wB n l)(i:Nat):Ov k l i=some (zL (gR i) l):=by
 unfold Ov
 rw[yW5 hk hl i]
 rfl
theorem vEm k b c r s (h:-9223372036854775808≤r-s)(h':r<9223372036854775808)(hs:0≤s):Ow k b c r s=some (wG r s):=by
 unfold Ow wG
 by_cases e:s≥r
 ·simp_all
 ·rw[ak e,if_neg e,qI h (by omega)];rfl
theorem ZT {n l}(hl:∀p∈l,yM n p) i (hi:i<n):qH (fun j=>zL (gS i j) l-zL (gS j i) l) n= -zL (gB i) l:=by
 have e1:qH (fun j=>zL (gS i j) l-zL (gS j i) l) n=qH (fun j=>zL (fun p=>gS i j p-gS j i p) l) n:=nC fun j _=>(NS _ _ l).symm
 rw[e1,HU (fun j p=>gS i j p-gS j i p)]
 have e2:∀p∈l,qH (fun j=>gS i j p-gS j i p) n=0-gB i p:=by
  intro p hp
  obtain⟨f0,f1,t0,t1,ne,a1,a2,c1,c3⟩:=hl p hp
  obtain⟨f,hf⟩:∃f:Nat,p.2.1=f:=⟨p.2.1.toNat,by omega⟩
  obtain⟨t,ht⟩:∃t:Nat,p.2.2.1=t:=⟨p.2.2.1.toNat,by omega⟩
  have g1:∀j,gS i j p-gS j i p=(if j=t then(if f=i then p.2.2.2.1 else 0) else 0)+(if j=f then(if t=i then-p.2.2.2.1 else 0) else 0):=by
   unfold gS
   omega
  rw[nC fun j _=>g1 j,yi,ur,ur]
  unfold gB
  omega
 rw[HT e2,NS]
 have:zL (fun _:zC=>(0:Int)) l=0:=by
  clear e1 e2 hl
  induction l with
  |nil=>rfl
  |cons p l ih=>show 0+zL _ l=0;omega
 omega
structure vAg (n:Nat) (a:List qS) (p:EQ) (l:List zC) (i:Nat) (a':List qS) (p':EQ):Prop where
 al:a'.length=n
 done:∀x,x<n→x<i→a'.getD x ad=((a.getD x ad).1+zL (gB x) l,(a.getD x ad).2.1,wG (a.getD x ad).2.2 (zL (gR x) l))
 rest:∀x,x<n→¬x<i→a'.getD x ad=a.getD x ad
 pl:p'.length=n
 pr:∀x,x<n→(p'.getD x []).length=n
 cell:∀x,x<n→∀y,y<n→cell p' x y=if x<i then cell p x y+zL (gS x y) l-zL (gS y x) l else cell p x y
structure Ox (n:Nat) (a:List qS) (p:EQ) (l:List zC) (i j:Nat) (a':List qS) (p':EQ):Prop where
 al:a'.length=n
 done:∀x,x<n→x<i→a'.getD x ad=((a.getD x ad).1+zL (gB x) l,(a.getD x ad).2.1,wG (a.getD x ad).2.2 (zL (gR x) l))
 here:a'.getD i ad=((a.getD i ad).1-qH (fun j=>zL (gS i j) l-zL (gS j i) l) j,(a.getD i ad).2.1,wG (a.getD i ad).2.2 (zL (gR i) l))
 rest:∀x,x<n→i<x→a'.getD x ad=a.getD x ad
 pl:p'.length=n
 pr:∀x,x<n→(p'.getD x []).length=n
 cell:∀x,x<n→∀y,y<n→cell p' x y=if x<i∨(x=i∧y<j) then cell p x y+zL (gS x y) l-zL (gS y x) l else cell p x y
theorem yZb {k n a p l}(hk:n<k)(cn:l.length<k)(hn:n≤1000)(hx:Iq n a p)(hl:wB n l){i}(hi:i<n)(b0:List qS) b1 b2 b3 b m
  {a0 p0} (h0:Ox n a p l i 0 a0 p0):∃a' p',Iw k k l i 0 b0 b1 b2 b3 a0 b m p0=some (l,(i:Int),b0,b1,b2,b3,a',b,m,p')∧Ox n a p l i n a' p':=by
 obtain ⟨s, h1, h2⟩ := wE (L := fun c j (s : List qS × EQ) => Iw k c l i j b0 b1 b2 b3 s.1 b m s.2) (N := n) (fun s => (l, (i : Int), b0, b1, b2, b3, s.1, b, m, s.2)) (fun j s => Ox n a p l i j s.1 s.2) (fun c s hs=>by
   show Et k _ l i n b0 b1 b2 b3 s.1 b m s.2=_
   unfold Et
   simp only [qJ, hs.al, ak (Nat.lt_irrefl _), ao]) (fun c j s hj hs=>by
   refine⟨(s.1.set i (zA ((s.1.getD i ad).1-(zL (gS i j) l-zL (gS j i) l)),(s.1.getD i ad).2),s.2.set i ((s.2.getD i []).set j (zA ((s.2.getD i []).getD j 0+(zL (gS i j) l-zL (gS j i) l))))),?_,?_⟩
   ·show Et k _ l i j b0 b1 b2 b3 s.1 b m s.2=_
    unfold Et
    simp only[qG,qK hj (by grind),qJ,aJ,hs.al,hs.pl,hs.pr i hi,ah hi,ah hj,an,yT6 cn hl,aj]
   ·have hb:=hx.bal i hi
    have hg:∀j,-70368744177664≤zL (gS i j) l-zL (gS j i) l∧zL (gS i j) l-zL (gS j i) l≤70368744177664:=fun j=>by
     have h1:=pq hl i j
     have h2:=pq hl j i
     omega
    have CQ:=DR hg j
    have NJ:=hg j
    have Eu:=hx.net i hi j hj
    have hc:=hs.cell i hi j hj
    rw[if_neg (by omega)] at hc
    refine⟨by simp only[List.length_set];exact hs.al,fun x fM rW=>?_,?_,fun x fM rW=>?_,by simp only[List.length_set];exact hs.pl,Ir hs.pl hs.pr hi,fun x fM y Ev=>?_⟩
    ·rw[jQ,if_neg (by grind)]
     exact hs.done x fM rW
    ·rw[jQ,if_pos ⟨rfl,by rw[hs.al];exact hi⟩,hs.here]
     dsimp only
     rw[qI (by omega) (by omega)]
     show(_,_)=((a.getD i ad).1-(qH _ j+_),_)
     grind
    ·rw[jQ,if_neg (by grind)]
     exact hs.rest x fM rW
    ·have e:(s.2.getD i []).getD j 0=cell p i j:=hc
     rw[On (by rw[hs.pl];exact hi) (by rw[hs.pr i hi];exact hj),e]
     by_cases Ix:x=i∧y=j
     ·obtain⟨rfl,rfl⟩:=Ix
      rw[if_pos ⟨rfl,rfl⟩,if_pos (by omega),qI (by omega) (by omega)]
      omega
     ·rw[if_neg Ix,hs.cell x fM y Ev]
      omega) (s:=(a0,p0)) hk h0
 grind
theorem vGv {k n a b m p l}(hk:n<k)(cn:l.length<k)(hn:n≤1000)(hx:Iq n a p)(hl:wB n l)(b0:List qS) b1 b2 b3:
  ∃a' p',Iy k k l 0 b0 b1 b2 b3 a b m p=some (b0,b1,b2,b3,a',b,m,p')∧pt n a p l a' p':=by
 obtain ⟨s, h1, h2⟩ := wE (L := fun c i (s : List qS × EQ) => Iy k c l i b0 b1 b2 b3 s.1 b m s.2) (N := n) (fun s => (b0, b1, b2, b3, s.1, b, m, s.2)) (fun i s => vAg n a p l i s.1 s.2) (fun c s hs=>by
   show Ew k _ l n b0 b1 b2 b3 s.1 b m s.2=_
   unfold Ew
   simp only [qJ, hs.al, ak (Nat.lt_irrefl _), ao]) (fun c i s hi hs=>by
   have hai:=hs.rest i hi (by simp)
   have hr:=hx.res i hi
   have hsp:=zk hl i
   obtain⟨a',p',h1,h2⟩:=yZb (a0:=s.1.set i ((s.1.getD i ad).1,((s.1.getD i ad).2.1,wG (s.1.getD i ad).2.2 (zL (gR i) l)))) (p0:=s.2) hk cn hn hx hl hi b0 b1 b2 b3 b m ⟨by rw[List.length_set];exact hs.al,fun x fM rW=>by
     rw[jQ,if_neg (by grind)];exact hs.done x fM rW,by
     rw[jQ,if_pos ⟨rfl,by rw[hs.al];exact hi⟩,hai]
     show _=((a.getD i ad).1-0,_,_)
     simp,fun x fM rW=>by
     rw[jQ,if_neg (by grind)];exact hs.rest x fM (by omega),hs.pl,hs.pr,fun x fM y Ev=>by
     rw[hs.cell x fM y Ev]
     omega⟩
   refine⟨(a',p'),?_,?_⟩
   ·show Ew k _ l i b0 b1 b2 b3 s.1 b m s.2=_
    unfold Ew
    have hK:=vEm k (s.1.getD i ad).1 (s.1.getD i ad).2.1 (s.1.getD i ad).2.2 (zL (gR i) l) (by grind) (by grind) hsp.1
    simp only[qG,qJ,aJ,hs.al,ah hi,an,vEn cn hl,aj]
    rw[hK]
    simp only[aj]
    rw[h1]
    simp only[aj,qK hi (by grind)]
   ·refine⟨h2.al,fun x fM rW=>?_,fun x fM rW=>h2.rest x fM (by omega),h2.pl,h2.pr,fun x fM y Ev=>?_⟩
    ·by_cases h:x<i
     ·exact h2.done x fM h
     ·have:x=i:=by omega
      subst this
      rw[h2.here,ZT hl.1 x fM]
      simp
    ·rw[h2.cell x fM y Ev]
     omega) (s:=(a,p)) hk ⟨hx.al,by simp,by simp,hx.pl,hx.pr,by simp⟩
 exact⟨s.1,s.2,h1,h2.al,fun i hi=>h2.done i hi hi,h2.pl,h2.pr,fun i hi j hj=>by rw[h2.cell i hi j hj,if_pos hi]⟩
def nG (a:List qS)(b:EQ)(m:AC)(p:EQ)(l:List zC)(r:List qS×EQ×AC×EQ×Int):Prop:=
 (wB a.length l→∃a' p',pt a.length a p l a' p'∧r=(bif jk a' b m p' then(a',b,m,p',0) else(a,b,m,p,8)))∧(¬wB a.length l→r=(a,b,m,p,1))
theorem Iz {k}(hk:100<k){a b m p}{l:List zC}(h:wL a b m p)(hl:l.length≤80):∃r,mg k a b m p l=some r∧nG a b m p l r:=by
 unfold mg nG
 have e:decide (((l.length:Nat):Int)>64)=decide (¬l.length≤64):=by
  grind
 rw[e]
 by_cases cy:l.length≤64
 case neg=>
  rw[ah cy]
  exact⟨_,rfl,fun e=>absurd e.2 cy,by simp⟩
 rw[ak (by omega),yMw (by omega) (by omega)]
 cases hm:lf a.length l with
 |false=>
  refine⟨_,rfl,fun e=>?_,by simp⟩
  rw[zi.2 e.1] at hm
  cases hm
 |true=>
  have aL:wB a.length l:=⟨zi.1 hm,cy⟩
  simp only[Ej (show 10<k by omega) h.toSized,aj]
  obtain⟨a',p',h1,h2⟩:=yTj (b:=b) (m:=m) (show l.length<k by omega) h.nums aL a b m p
  rw[h1]
  simp only[aj,ZI (show 10<k by omega)]
  cases hB:jk a' b m p' with
  |true=>exact⟨_,rfl,by grind,by grind⟩
  |false=>exact⟨_,rfl,by grind,by grind⟩
theorem yUm {k}(hk:100<k){a b m p}{l:List zC}(h:wL a b m p)(hl:l.length≤80):∃r,Oy k a b m p l=some r∧nG a b m p l r:=by
 unfold Oy nG
 rw[vFy (by omega) (by omega)]
 cases hm:lf a.length l with
 |false=>
  refine⟨_,rfl,fun e=>?_,by simp⟩
  rw[zi.2 e.1] at hm
  cases hm
 |true=>
  by_cases cy:l.length≤64
  case neg=>
   rw[ak cy]
   exact⟨_,rfl,fun e=>absurd e.2 cy,by simp⟩
  have aL:wB a.length l:=⟨zi.1 hm,cy⟩
  have h6:=h.n6
  rw[ah cy]
  simp only[yMe (show 10<k by omega) h.toSized,aj]
  obtain⟨a',p',h1,h2⟩:=vGv (b:=b) (m:=m) (show a.length<k by omega) (by grind) (by omega) h.nums aL a b m p
  rw[h1]
  simp only[aj,ySz (show 10<k by omega)]
  cases hB:jk a' b m p' with
  |true=>exact⟨_,rfl,by grind,by grind⟩
  |false=>exact⟨_,rfl,by grind,by grind⟩
theorem nG.same {a b m p l r r'}(h:nG a b m p l r)(h':nG a b m p l r'):r=r':=by
 by_cases c:wB a.length l
 ·obtain⟨a1,p1,x,rfl⟩:=h.1 c
  obtain⟨a2,p2,y,rfl⟩:=h'.1 c
  obtain⟨rfl,rfl⟩:=x.same y
  rfl
 ·rw[h.2 c,h'.2 c]
theorem ZU {a b m p}(hb:wL a b m p){i}(hi:i<a.length) j:-72057594037927936≤cell p i j∧cell p i j≤72057594037927936:=by
 by_cases hj:j<a.length
 ·have:=hb.net i hi j hj
  simp[dV] at this
  omega
 ·have:cell p i j=0:=by
   unfold cell
   rw[List.getD_eq_getElem?_getD,List.getElem?_eq_none]
   ·rfl
   ·rw[hb.pr i hi];omega
  omega
theorem ZV {S X:Type}{L:Nat→Int→S→Option X}{N:Nat}(ok:Nat→Bool)(e:S→X)(b:X)(inv:Nat→S→Prop)(bp:∀n s,inv N s→L (n+1) (N:Int) s=some (e s))
  (aC:∀n i s,i<N→inv i s→(ok i=true→∃s',L (n+1) (i:Int) s=L n ((i+1:Nat):Int) s'∧inv (i+1) s')∧(ok i=false→L (n+1) (i:Int) s=some b)):
  ∀c i n s,i+c=N→c<n→inv i s→(qE ok c i=true∧∃s',L n (i:Int) s=some (e s')∧inv N s')∨(qE ok c i=false∧L n (i:Int) s=some b)
 |0,i,n,s,h,hn,hs=>by
  obtain⟨n,rfl⟩:∃m,n=m+1:=⟨n-1,by omega⟩
  have:i=N:=by omega
  subst this
  exact .inl ⟨rfl,s,bp n s hs,hs⟩
 |c+1,i,n,s,h,hn,hs=>by
  obtain⟨n,rfl⟩:∃m,n=m+1:=⟨n-1,by omega⟩
  obtain⟨h1,h2⟩:=aC n i s (by omega) hs
  unfold qE
  cases ho:ok i with
  |true=>
   obtain⟨s',h3,h4⟩:=h1 ho
   rw[h3]
   simp only[Bool.true_and]
   exact ZV ok e b inv bp aC c (i+1) n s' (by omega) (by omega) h4
  |false=>exact .inr ⟨rfl,h2 ho⟩
def dS (l:List zC)(i j:Nat):Int:=zL (gS i j) l-zL (gS j i) l
def IA (b p:EQ)(l:List zC)(i j:Nat):Bool:= !(decide (zL (gS i j) l>0)&&(!decide (cell b i j= -1)&&decide (cell p i j+dS l i j>cell b i j)))
def jl (a:List qS)(b:EQ)(m:AC)(p:EQ)(l:List zC)(i:Nat):Bool:=
 !decide (zL (gN i) l + zL (gR i) l = 0) && (!qE (IA b p l i) a.length 0 || (decide ((a.getD i ad).1+(a.getD i ad).2.1+zL (gB i) l<0)||
  ((decide (zL (gN i) l>0)&&decide ((a.getD i ad).1+(a.getD i ad).2.1+zL (gB i) l<wG (a.getD i ad).2.2 (zL (gR i) l)))||
   (!decide (m.getD i 0= -1)&&decide (qH (cell p i) a.length-zL (gB i) l>m.getD i 0)))))
theorem IB {n:Nat}{l:List zC}(hl:wB n l)(i j:Nat):-70368744177664≤dS l i j∧dS l i j≤70368744177664:=by
 have h1:=pq hl i j
 have h2:=pq hl j i
 unfold dS
 omega
theorem yV1 {n:Nat}{l:List zC}(hl:∀p∈l,yM n p)(i:Nat)(hi:i<n):qH (dS l i) n= -zL (gB i) l:=ZT hl i hi
def zo (a:List qS)(b:EQ)(m:AC)(p:EQ)(l:List zC):Bool:=(lf a.length l&&decide (l.length≤64))&&qE (fun i=> !jl a b m p l i) a.length 0
theorem vIm {k n i p}(hk:n<k)(hn:n≤100)(hi:i<n)(hp:p.length=n)(hr:(p.getD i []).length=n)(hb:∀j,-72057594037927936≤cell p i j∧cell p i j≤72057594037927936)(a:List qS) b m:
  IC k a b m p i=some (qH (cell p i) n):=by
 obtain ⟨s, h1, h2⟩ := wE (L := fun c j (s : Int) => zp k c s (p.getD i []) n j) (N := n) (fun s => s) (fun j s => s = qH (cell p i) j) (fun c s hs=>by
   show zq k _ s (p.getD i []) n n=_
   unfold zq
   simp) (fun c j s hj hs=>by
   refine⟨qH (cell p i) (j+1),?_,rfl⟩
   show zq k _ s (p.getD i []) n j=_
   have h1:=DR hb j
   have h2:=hb j
   unfold zq
   simp only[qG,qK hj (by grind),qJ,hr,ah hj]
   show zp k c (zA (s+cell p i j)) _ _ _=_
   rw[hs,qI (by omega) (by omega)]
   rfl) (s:=0) hk rfl
 unfold IC
 simp[qG]
 simp_all
theorem ZW k {n:Nat}(hn:n≤6):Ey k n=some true:=by
 unfold Ey
 grind
theorem ZX {α:Type}(v z:α) n i (hi:i<n):(List.replicate i v++List.replicate (n-i) z).set i v=List.replicate (i+1) v++List.replicate (n-(i+1)) z:=by
 have e:List.replicate (n-i) z=z::List.replicate (n-(i+1)) z:=by
  rw[show n-i=(n-(i+1))+1 by omega];rfl
 rw[List.set_append_right _ _ (by simp),List.length_replicate,Nat.sub_self,e]
 simp[List.replicate_succ']
theorem ZY {k n}(hk:n<k)(hn:n≤6) v:uD k n v=some (List.replicate n v):=by
 unfold uD
 rw[ZW k hn]
 obtain ⟨s, h1, h2⟩ := wE (L := fun c i (s : AC) => Ez k c v n i s) (N := n) (fun s => s) (fun i s => s = List.replicate i v ++ List.replicate (n - i) 0) (fun c s hs=>by
   show zr k _ v n n s=_
   unfold zr
   simp) (fun c i s hi hs=>by
   refine⟨_,?_,rfl⟩
   show zr k _ v n i s=_
   have hl:s.length=n:=by grind
   unfold zr
   simp[qG,qK hi (by grind),ah hi,hl]
   rw[hs,ZX v 0 n i hi]) (s:=List.replicate n 0) hk (by simp)
 grind
theorem vC7 {k n}(hk:n<k)(hn:n≤6) v:zt k n v=some (List.replicate n (List.replicate n v)):=by
 unfold zt
 rw[ZW k hn]
 obtain ⟨s, h1, h2⟩ := wE (L := fun c i (s : EQ) => EA k c n v n i s) (N := n) (fun s => s) (fun i s => s = List.replicate i (List.replicate n v) ++ List.replicate (n - i) []) (fun c s hs=>by
   show zu k _ n v n n s=_
   unfold zu
   simp) (fun c i s hi hs=>by
   refine⟨_,?_,rfl⟩
   show zu k _ n v n i s=_
   have hl:s.length=n:=by grind
   unfold zu
   simp[qG,qK hi (by grind),ah hi,hl,ZY hk hn]
   rw[hs,ZX (List.replicate n v) [] n i hi]) (s:=List.replicate n []) hk (by simp)
 grind
def uE (a:List qS)(b:EQ)(m:AC)(p:EQ)(l:List zC):AC:=((List.range a.length).filter fun i=>jl a b m p l i).map fun(i:Nat)=>(i:Int)
structure ID (n:Nat) (l:List zC) (r2 r3:AC) (m4:EQ):Prop where
 l2:r2.length=n
 l3:r3.length=n
 l4:m4.length=n
 r4:∀i,i<n→(m4.getD i []).length=n
 more:∀i,i<n→r2.getD i 0=zL (gB i) l
 spent:∀i,i<n→r3.getD i 0=zL (gR i) l
 sent:∀i,i<n→∀j,j<n→cell m4 i j=dS l i j
def EB (p:zC)(r:AC):AC:=
 let y0:=r.set p.2.1.toNat (zA (r.getD p.2.1.toNat 0-p.2.2.2.1))
 y0.set p.2.2.1.toNat (zA (y0.getD p.2.2.1.toNat 0+p.2.2.2.1))
def EC (p:zC)(r:AC):AC:=bif !decide (p.2.2.2.2.1=3) then r.set p.2.1.toNat (zA (r.getD p.2.1.toNat 0+p.2.2.2.1)) else r
theorem vFn {n p}(h:yM n p){r}(hr:r.length=n){i}(hi:i<n)(hb:∀i,i<n→-4611826755915743232<r.getD i 0∧r.getD i 0<4611826755915743232):(EB p r).getD i 0=r.getD i 0+gB i p:=by
 obtain⟨f0,f1,t0,t1,ne,a1,a2,c1,c3⟩:=h
 obtain⟨f,hf⟩:∃f:Nat,p.2.1=f:=⟨p.2.1.toNat,by omega⟩
 obtain⟨t,ht⟩:∃t:Nat,p.2.2.1=t:=⟨p.2.2.1.toNat,by omega⟩
 have Is:f≠t:=by omega
 have eK:f<n:=by omega
 have dW:t<n:=by omega
 unfold EB gB
 simp only[hf,ht,aJ]
 have b1:=hb f eK
 have b2:=hb t dW
 have key:∀x,(r.set f (zA (r.getD f 0-p.2.2.2.1))).getD x 0=if f=x then zA (r.getD f 0-p.2.2.2.1) else r.getD x 0:=by grind
 rw[jQ,List.length_set,key t,if_neg Is,key i]
 by_cases h1:t=i
 ·subst h1
  rw[if_pos (by grind),if_pos rfl,if_neg (by omega),qI (by omega) (by omega)]
  omega
 ·rw[if_neg (by grind),if_neg (c:=((t:Int)=i)) (by omega)]
  by_cases h2:f=i
  ·subst h2
   rw[if_pos rfl,if_pos rfl,qI (by omega) (by omega)]
   omega
  omega
theorem yV0 {n p}(h:yM n p){r}(hr:r.length=n){i}(hi:i<n)(hb:∀i,i<n→-4611826755915743232<r.getD i 0∧r.getD i 0<4611826755915743232):(EC p r).getD i 0=r.getD i 0+gR i p:=by
 obtain⟨f0,f1,t0,t1,ne,a1,a2,c1,c3⟩:=h
 obtain⟨f,hf⟩:∃f:Nat,p.2.1=f:=⟨p.2.1.toNat,by omega⟩
 have eK:f<n:=by omega
 have b1:=hb f eK
 unfold EC gR
 simp only[hf,aJ]
 by_cases hc:p.2.2.2.2.1=3
 ·simp_all
 ·rw[ak hc]
  simp only[dg,an]
  rw[jQ]
  by_cases h2:f=i
  ·subst h2
   rw[if_pos (by grind),if_pos (by grind),qI (by omega) (by omega)]
  omega
theorem vEi l p i j:dS (l++[p]) i j=dS l i j+gS i j p-gS j i p:=by
 unfold dS
 rw[iE,iE]
 dsimp only[zL]
 omega
theorem IE {α:Type} n i (v d:α)(h:i<n):(List.replicate n v).getD i d=v:=by
 simp_all
theorem yYh {k n l}(hk:100<k)(hn:n≤6)(hl:wB n l):∃r2 r3 m4,IF k n l=some (r2,r3,m4)∧ID n l r2 r3 m4:=by
 have kz:=hl.2
 have := wE (L := fun c i (s : AC × AC × EQ) => ED k c l l.length i s.1 s.2.1 s.2.2) (N := l.length) (fun s => s) (fun i s => ID n (l.take i) s.1 s.2.1 s.2.2) (fun c s hs=>by
   show zv k _ l l.length l.length s.1 s.2.1 s.2.2=_
   unfold zv
   simp) (fun c i s hi hs=>by
   have bC:yM n (l.getD i pd):=hl.1 _ (jY hi)
   refine⟨(EB (l.getD i pd) s.1,EC (l.getD i pd) s.2.1,rU (l.getD i pd) s.2.2),?_,?_⟩
   ·show zv k _ l l.length i s.1 s.2.1 s.2.2=_
    unfold zv EB EC rU
    simp only[qG,qK hi (by grind),qJ,aJ,ah hi,an]
    obtain⟨f0,f1,t0,t1,ne,a1,a2,c1,c3⟩:=bC
    obtain⟨f,hf⟩:∃f:Nat,(l.getD i pd).2.1=f:=⟨(l.getD i pd).2.1.toNat,by omega⟩
    obtain⟨t,ht⟩:∃t:Nat,(l.getD i pd).2.2.1=t:=⟨(l.getD i pd).2.2.1.toNat,by omega⟩
    have eK:f<n:=by omega
    have dW:t<n:=by omega
    have r1:=Ir (x:=zA ((s.2.2.getD f []).getD t 0+(l.getD i pd).2.2.2.1)) (t:=t) hs.l4 hs.r4 eK
    simp only[hf,ht,aJ,qG,hs.l2,hs.l3,hs.l4,List.length_set,hs.r4 f eK,r1 t dW,ah eK,ah dW,an]
    grind
   ·have aL:=hl.take i
    have hp := ZR bC hs.l4 hs.r4 (fun i' bj j' iW=>by
     rw[hs.sent i' bj j' iW]
     have:=IB aL i' j'
     omega)
    have hbM:∀i',i'<n→-4611826755915743232<s.1.getD i' 0∧s.1.getD i' 0<4611826755915743232:=fun i' bj=>by
     rw[hs.more i' bj];have:=Om aL i';omega
    have hbS:∀i',i'<n→-4611826755915743232<s.2.1.getD i' 0∧s.2.1.getD i' 0<4611826755915743232:=fun i' bj=>by
     rw[hs.spent i' bj];have:=zk aL i';omega
    refine⟨by unfold EB;simp[hs.l2],by unfold EC;cases decide ((l.getD i pd).2.2.2.2.1=3)<;>simp[hs.l3],hp.1,hp.2.1,fun i' bj=>?_,fun i' bj=>?_,fun i' bj j' iW=>?_⟩
    ·rw[vFn bC hs.l2 bj hbM,hs.more i' bj,←dE l i pd hi,iE]
     dsimp only[zL]
     omega
    ·rw[yV0 bC hs.l3 bj hbS,hs.spent i' bj,←dE l i pd hi,iE]
     dsimp only[zL]
     omega
    ·rw[hp.2.2 i' bj j' iW,hs.sent i' bj j' iW,←dE l i pd hi,vEi]) (n:=k) (s:=(List.replicate n 0,List.replicate n 0,List.replicate n (List.replicate n 0))) (by omega) ⟨by simp,by simp,by simp,by grind,fun i hi=>by rw[IE n i _ _ hi];rfl,fun i hi=>by rw[IE n i _ _ hi];rfl,fun i hi j hj=>by
    unfold cell
    rw[IE n i _ _ hi,IE n j _ _ hj]
    rfl⟩
 obtain⟨s,h1,h2⟩:=this
 rw[List.take_of_length_le (Nat.le_refl _)] at h2
 refine⟨s.1,s.2.1,s.2.2,?_,h2⟩
 unfold IF
 rw[ZY (by omega) hn,vC7 (by omega) hn]
 simp_all
theorem yVa {k}{l:List zC}(hk:l.length<k)(hl:l.length<9223372036854775808) i:IG k l i=some (!qE (fun x=> !decide ((l.getD x pd).2.1=i)) l.length 0):=by
 obtain ⟨x, h1, h2⟩ := rO (L := fun c x => EE k c l l.length x i) (N := l.length) (fun x => decide ((l.getD x pd).2.1 = i)) (fun c=>by
   show zw k _ l l.length l.length i=_
   unfold zw
   simp) (fun c x hx=>by
   show zw k _ l l.length x i=_
   unfold zw Oz
   simp[qG,qK hx hl,ah hx]) hk
 unfold IG OA
 grind
theorem ZZ {n:Nat}{l:List zC}(hl:∀p∈l,yM n p)(i:Nat):qE (fun x=> !decide ((l.getD x pd).2.1=i)) l.length 0=decide (zL (gN i) l+zL (gR i) l=0):=by
 have hN:=rP (g:=gN i) (l:=l) fun p hp=>(Iv (hl p hp) i).1
 have hR:=rP (g:=gR i) (l:=l) fun p hp=>(Ip (hl p hp) i).1
 have e:zL (gN i) l+zL (gR i) l=zL (fun p:zC=>if p.2.1=(i:Int) then p.2.2.2.1 else 0) l:=by
  rw[←Zj]
  refine HT fun p hp=>?_
  unfold gN gR
  omega
 rw[e]
 have h:∀(l:List zC),(∀p∈l,yM n p)→((∀p∈l,¬p.2.1=i)↔zL (fun p:zC=>if p.2.1=(i:Int) then p.2.2.2.1 else 0) l=0):=by
  intro l
  induction l with
  |nil=>intro _;simp[zL]
  |cons q l ih=>
   intro hm
   have ih:=ih (by grind)
   have hq:=hm q (by simp)
   have h0:0≤zL (fun p:zC=>if p.2.1=i then p.2.2.2.1 else 0) l:=rP fun p hp=>by
    have:=(hm p (by grind)).a1
    omega
   unfold zL
   by_cases c:q.2.1=i
   ·rw[if_pos c]
    have:=hq.a1
    grind
   simp_all
 have aU:(∀p∈l,¬p.2.1=i)↔qE (fun x=> !decide ((l.getD x pd).2.1=i)) l.length 0=true:=by
  rw[fK]
  constructor
  ·intro h j hj
   simpa using h _ (jY hj)
  ·intro h p hp
   obtain⟨j,hj,rfl⟩:=List.getElem_of_mem hp
   have:=h j hj
   simpa[List.getD,hj] using this
 simp_all
def zx (n EF:Int):Bool:= !decide (EF= -1)&&decide (n>EF)
theorem Z0 k n EF:zy k n EF=some (zx n EF):=by
 unfold zy zx
 grind
theorem ySi k b c r s (h:-9223372036854775808≤r-s)(h':r<9223372036854775808)(hs:0≤s):rV k b c r s=some (wG r s):=by
 unfold rV wG vP
 rw[qI h (by omega),ao]
 grind
def uF (b p:EQ)(l:List zC)(i:Nat)(short:Bool)(q:zC):Bool:=
 decide (q.2.1=i)&&((decide (q.2.2.2.2.1=3)&&short)||zx (cell p i q.2.2.1.toNat+dS l i q.2.2.1.toNat) (cell b i q.2.2.1.toNat))
theorem yNs {k a b m p l}(hk:100<k)(hb:wL a b m p)(hl:wB a.length l){r2 r3 m4}(hm:ID a.length l r2 r3 m4){i}(hi:i<a.length) bal cr res n0 (im:0≤res∧res≤2305843009213693952):
  IH k l i bal cr res r2 r3 m4 n0 a b m p=some (!qE (fun x=> !uF b p l i (decide (n0<wG res (zL (gR i) l))) (l.getD x pd)) l.length 0):=by
 have kz:=hl.2
 have hR:=zk hl i
 obtain ⟨x, h1, h2⟩ := rO (L := fun c x => EG k c l l.length x i bal cr res r2 r3 m4 n0 a b m p) (N := l.length) (fun x => uF b p l i (decide (n0 < wG res (zL (gR i) l))) (l.getD x pd)) (fun c=>by
   show zz k _ l l.length l.length i bal cr res r2 r3 m4 n0 a b m p=_
   unfold zz
   simp) (fun c x hx=>by
   show zz k _ l l.length x i bal cr res r2 r3 m4 n0 a b m p=_
   have bC:yM a.length (l.getD x pd):=hl.1 _ (by grind)
   unfold zz
   simp only[qG,qK hx (by grind),qJ,aJ,ah hx]
   generalize l.getD x (0,(0,(0,(0,(0,(0,0))))))=q at bC⊢
   obtain⟨id,f,t,am,cl,st,ti⟩:=q
   obtain⟨f0,f1,t0,t1,ne,a1,a2,c1,c3⟩:=bC
   dsimp only at f0 f1 t0 t1 ne a1 a2 c1 c3⊢
   obtain⟨t,rfl⟩:∃y:Nat,t=y:=⟨t.toNat,by omega⟩
   have dW:t<a.length:=by omega
   unfold OB uF
   cases hf:decide (f=(i:Int)) with
   |false=>simp
   |true=>
    have e1:(r3.getD i 0)=zL (gR i) l:=hm.spent i hi
    have e2:(m4.getD i []).getD t 0=dS l i t:=hm.sent i hi t dW
    have Eu:=hb.nums.net i hi t dW
    have hd:=IB hl i t
    have e3:zA ((p.getD i []).getD t 0+dS l i t)=cell p i t+dS l i t:=qI (by show _≤cell p i t+dS l i t;omega) (by show cell p i t+dS l i t<_;omega)
    simp only[qG,hm.l3,hm.l4,hm.r4 i hi,hb.pl,hb.pr i hi,hb.bl,hb.br i hi,ah hi,ah dW,aJ,e1,e2,e3,ySi k bal cr res (zL (gR i) l) (by omega) (by omega) hR.1,aj,Z0]
    cases decide (cl=3)<;>cases decide (n0<wG res (zL (gR i) l))<;>rfl) (n:=k) (by omega)
 unfold IH OC
 grind
theorem OD {α g}:∀{l:List α},(∀p∈l,0≤g p)→(0<zL g l↔∃p∈l,0<g p)
 |[],_=>by simp[zL]
 |q::l,h=>by
  have ih:=OD (g:=g) (l:=l) (by grind)
  have h0:=rP (g:=g) (l:=l) (by grind)
  unfold zL
  grind
theorem II {N p}:qE p N 0=false↔∃j,j<N∧p j=false:=by
 constructor
 ·apply Classical.byContradiction
  intro hn
  have:qE p N 0=true:=fK.2 (by grind)
  simp_all
 ·rintro⟨j,hj,hp⟩
  cases h:qE p N 0 with
  |false=>rfl
  |true=>rw[fK.1 h j hj] at hp;cases hp
theorem yL9 {a:List qS}{b p l}(hl:wB a.length l){i}(hi:i<a.length) short:
  (!qE (fun x=> !uF b p l i short (l.getD x pd)) l.length 0)=(!qE (IA b p l i) a.length 0||(decide (zL (gN i) l>0)&&short)):=by
 have hN:=OD (g:=gN i) (l:=l) fun p hp=>(Iv (hl.1 p hp) i).1
 have hS:=fun j=>OD (g:=gS i j) (l:=l) fun p hp=>(Ol (hl.1 p hp) i j).1
 rw[Bool.eq_iff_iff]
 simp only[Bool.not_eq_true',Bool.or_eq_true,bO,bH]
 rw[II,II]
 constructor
 ·rintro⟨x,hx,hb⟩
  have bC:=hl.1 _ (jY (d:=pd) hx)
  have bz:=jY (d:=pd) hx
  generalize l.getD x pd=q at hb bC bz
  simp only[uF,Bool.not_eq_false',bO,Bool.or_eq_true,bH] at hb
  obtain⟨hf,hb⟩:=hb
  rcases hb with⟨hc,hs⟩|ho
  ·refine .inr ⟨hN.2 ⟨q,bz,?_⟩,hs⟩
   unfold gN
   rw[if_pos ⟨hf,hc⟩]
   have:=bC.a1;omega
  ·have h1:=bC.t0;have h2:=bC.t1
   refine .inl ⟨q.2.2.1.toNat,by omega,?_⟩
   unfold IA
   have uG:zL (gS i q.2.2.1.toNat) l>0:=(hS _).2 ⟨q,bz,by
    unfold gS
    rw[if_pos (by grind)]
    have:=bC.a1;omega⟩
   rw[ah uG]
   unfold zx at ho
   simp_all
 ·rintro(⟨j,hj,hb⟩|⟨hp,hs⟩)
  ·simp only[IA,Bool.not_eq_false',bO,bH] at hb
   obtain⟨uG,ho⟩:=hb
   obtain⟨q,hq,hg⟩:=(hS j).1 uG
   obtain⟨x,hx,rfl⟩:=List.getElem_of_mem hq
   refine⟨x,hx,?_⟩
   have e:l.getD x pd=l[x]:=by simp[List.getD,hx]
   rw[e]
   unfold gS at hg
   by_cases c:l[x].2.1=(i:Int)∧l[x].2.2.1=(j:Int)
   ·unfold uF zx
    simp_all
   ·rw[if_neg c] at hg;omega
  ·obtain⟨q,hq,hg⟩:=hN.1 hp
   obtain⟨x,hx,rfl⟩:=List.getElem_of_mem hq
   refine⟨x,hx,?_⟩
   have e:l.getD x pd=l[x]:=by simp[List.getD,hx]
   rw[e]
   unfold gN at hg
   by_cases c:l[x].2.1=(i:Int)∧l[x].2.2.2.2.1=3
   ·unfold uF
    simp_all
   ·rw[if_neg c] at hg;omega
theorem yWq {k a b m p l}(hk:100<k)(hb:wL a b m p)(hl:wB a.length l){r2 r3 m4}(hm:ID a.length l r2 r3 m4){i}(hi:i<a.length)(hs:decide (zL (gN i) l+zL (gR i) l=0)=false):
  IJ k r2 r3 m4 a b m p i l=some (jl a b m p l i):=by
 have h6:=hb.n6
 have kz:=hl.2
 have hB:=Om hl i
 have hx:=hb.acct i hi
 simp only[jX,bO,bH] at hx
 have EH:-4611686018427387904<(a.getD i ad).1∧(a.getD i ad).1<4611686018427387904∧0≤(a.getD i ad).2.1∧(a.getD i ad).2.1≤2305843009213693952∧0≤(a.getD i ad).2.2∧(a.getD i ad).2.2≤2305843009213693952:=by grind
 have Eu:=DR (ZU hb hi) a.length
 have e1:r2.getD i 0=zL (gB i) l:=hm.more i hi
 unfold IJ
 simp only[qG,ah hi,an,aJ,hm.l2,hm.l4,e1,hm.r4 i hi]
 rw[vIm (by omega) (by omega) hi hb.pl (hb.pr i hi) (ZU hb hi)]
 rw[qI (x:=(a.getD i ad).1+(a.getD i ad).2.1) (by omega) (by omega),qI (x:=(a.getD i ad).1+(a.getD i ad).2.1+zL (gB i) l) (by omega) (by omega)]
 unfold jl
 rw[hs]
 cases hn:decide ((a.getD i ad).1+(a.getD i ad).2.1+zL (gB i) l<0) with
 |true=>simp
 |false=>
  obtain ⟨s, q1, q2⟩ := wE (L := fun c j (s : Int) => uH k c l s (m4.getD i []) a.length j r2 r3 m4 a b m p i (a.getD i ad).1 (a.getD i ad).2.1 (a.getD i ad).2.2 ((a.getD i ad).1 + (a.getD i ad).2.1 + zL (gB i) l)) (N := a.length) (fun s => (l, s, r2, r3, m4, a, b, m, p, (i : Int), (a.getD i ad).1, (a.getD i ad).2.1, (a.getD i ad).2.2, (a.getD i ad).1 + (a.getD i ad).2.1 + zL (gB i) l)) (fun j s => s = qH (cell p i) a.length + qH (dS l i) j) (fun c s hs=>by
    show z6 k _ l s (m4.getD i []) a.length a.length r2 r3 m4 a b m p i (a.getD i ad).1 (a.getD i ad).2.1 (a.getD i ad).2.2 ((a.getD i ad).1+(a.getD i ad).2.1+zL (gB i) l)=_
    unfold z6
    simp) (fun c j s hj hs=>by
    refine⟨qH (cell p i) a.length+qH (dS l i) (j+1),?_,rfl⟩
    show z6 k _ l s (m4.getD i []) a.length j r2 r3 m4 a b m p i (a.getD i ad).1 (a.getD i ad).2.1 (a.getD i ad).2.2 ((a.getD i ad).1+(a.getD i ad).2.1+zL (gB i) l)=_
    have e2:(m4.getD i []).getD j 0=dS l i j:=hm.sent i hi j hj
    have CQ:=DR (fun j=>IB hl i j) j
    have NJ:=IB hl i j
    unfold z6
    simp only[qG,qK hj (by grind),qJ,aJ,hm.r4 i hi,ah hj,an,e2]
    rw[hs,qI (x:=qH (cell p i) a.length+qH (dS l i) j+dS l i j) (by omega) (by omega),Int.add_assoc]
    rfl) (n:=k) (s:=qH (cell p i) a.length) (by omega) (by show _=_+0;omega)
  have q1':uH k k l (qH (cell p i) a.length) (m4.getD i []) a.length 0 r2 r3 m4 a b m p i (a.getD i ad).1 (a.getD i ad).2.1 (a.getD i ad).2.2 ((a.getD i ad).1+(a.getD i ad).2.1+zL (gB i) l)=_:=q1
  simp only[ao,aj]
  rw[show uH k k l (qH (cell p i) a.length) (m4.getD i []) a.length 0 r2 r3 m4 a b m p i (a.getD i (0,(0,0))).1 (a.getD i (0,(0,0))).2.1 (a.getD i (0,(0,0))).2.2 ((a.getD i ad).1+(a.getD i ad).2.1+zL (gB i) l)=_ from q1']
  simp only[aj,qG,hb.ml,ah hi,an,aJ,Z0]
  rw[yNs hk hb hl hm hi _ _ _ _ (by grind),yL9 hl hi,q2,yV1 hl.1 i hi]
  have en:qH (cell p i) a.length+-zL (gB i) l=qH (cell p i) a.length-zL (gB i) l:=by omega
  rw[en]
  unfold zx
  grind
theorem yZk f i:((List.range (i+1)).filter f).map (fun(x:Nat)=>(x:Int))=(((List.range i).filter f).map fun(x:Nat)=>(x:Int))++(bif f i then[(i:Int)] else[]):=by
 rw[List.range_succ,List.filter_append,List.map_append]
 grind
theorem OE {k a b m p l}(hk:100<k)(hb:wL a b m p)(hl:wB a.length l):uI k a b m p l=some (uE a b m p l):=by
 have h6:=hb.n6
 have kz:=hl.2
 obtain⟨r2,r3,m4,g1,hm⟩:=yYh hk h6 hl
 obtain ⟨r, h1, h2⟩ := wE (L := fun c i (r : AC) => z7 k c l a.length i a b m p r2 r3 m4 r) (N := a.length) (fun r => r) (fun i r => r = ((List.range i).filter fun i => jl a b m p l i).map fun (x : Nat) => (x : Int)) (fun c r hr=>by
   show z8 k _ l a.length a.length a b m p r2 r3 m4 r=_
   unfold z8
   simp) (fun c i r hi hr=>by
   have hle:r.length≤i:=by
    grind
   have aH:zY (r.length+1) 8=true:=qU (by omega) (by omega)
   refine⟨_,?_,rfl⟩
   show z8 k _ l a.length i a b m p r2 r3 m4 r=_
   unfold z8
   simp only[qK hi (by grind),yVa (show l.length<k by omega) (by omega)]
   rw[ZZ hl.1,yZk,←hr]
   cases hz:decide (zL (gN i) l+zL (gR i) l=0) with
   |true=>
    have:jl a b m p l i=false:=by unfold jl;simp_all
    simp_all
   |false=>
    rw[yWq hk hb hl hm hi hz]
    grind) (n:=k) (s:=[]) (by omega) rfl
 unfold uI
 rw[g1]
 simp
 have fB:z7 k k l a.length 0 a b m p r2 r3 m4 []=some r:=h1
 rw[fB,h2]
 rfl
theorem yTu {a b m p l}:decide (((uE a b m p l).length:Int)=0)=qE (fun i=> !jl a b m p l i) a.length 0:=by
 unfold uE
 cases h:qE (fun i=> !jl a b m p l i) a.length 0 with
 |true=>
  rw[fK] at h
  simp_all
 |false=>
  apply ak
  intro h0
  obtain⟨j,hj,hs⟩:=II.1 h
  simp_all
theorem yZt {k}{l:List zC}(hk:l.length<k)(hl:l.length<9223372036854775808)(a:List qS) b m p:IK k l a b m p=some (!lf a.length l):=by
 obtain ⟨x, h1, h2⟩ := rO (L := fun c i => EI k c l l.length i a b m p) (N := l.length) (fun i => !mf a.length (l.getD i pd)) (fun c=>by
  show z9 k _ l l.length l.length a b m p=_
  unfold z9
  simp) (fun c i hi=>by
  show z9 k _ l l.length i a b m p=_
  unfold z9 OF
  simp[qG,qK hi hl,ah hi,Im]) hk
 unfold IK OG
 unfold lf
 grind
theorem vB1 {k a b m p}{l:List zC}(hk:100<k)(hb:wL a b m p)(hl:l.length≤80):uJ k a b m p l=some (zo a b m p l):=by
 unfold uJ zo
 have e:decide ((l.length:Int)≤64)=decide (l.length≤64):=by
  grind
 rw[e,yZt (by omega) (by omega)]
 cases cy:decide (l.length≤64) with
 |false=>simp
 |true=>
  cases hm:lf a.length l with
  |false=>rfl
  |true=>
   have hr:wB a.length l:=⟨zi.1 hm,by grind⟩
   simp only[an,aj,aW,dg,OE hk hb hr,yTu,Bool.true_and]
def qO (l:List zC):Prop:=List.Pairwise (fun p q=>p.1≠q.1) l
theorem qO.filter {l:List zC}(h:qO l)(f:zC→Bool):qO (l.filter f):=List.Pairwise.filter f h
theorem EJ {α:Type}(f:α→Bool)(l:List α)(i:Nat)(d:α)(h:i<l.length):(l.take (i+1)).filter f=(l.take i).filter f++(bif f (l.getD i d) then[l.getD i d] else[]):=by
 rw[←dE l i d h,List.filter_append]
 congr 1
theorem Z1 {α X:Type}(d:α){l:List α}{L:Nat→Int→List α→Option X}(f:α→Bool)(e:List α→X)(bp:∀n s,L (n+1) (l.length:Int) s=some (e s))
  (aC:∀n i s,i<l.length→s.length≤i→L (n+1) (i:Int) s=L n ((i+1:Nat):Int) (bif f (l.getD i d) then s++[l.getD i d] else s)) {n:Nat} (hn:l.length<n):
  L n 0 []=some (e (l.filter f)):=by
 obtain ⟨s', h1, h2⟩ := wE (L := L) (N := l.length) e (fun i s => s = (l.take i).filter f) (fun n s _ => bp n s) (fun n i s hi hs=>by
  refine⟨_,aC n i s hi ?_,?_⟩
  ·subst hs
   have:=List.length_filter_le f (l.take i)
   rw[List.length_take] at this
   omega
  ·subst hs
   rw[EJ f l i d hi]
   cases f (l.getD i d)<;>simp) (s:=[]) hn (by simp)
 rw[h1,h2,List.take_length]
def yU (l:List zC):Prop:=l.length≤1000
theorem rY {n:Nat}(h:n≤1000):zY (n+1) 56=true:=qU (by omega) (by omega)
def mh (t:Int)(p:zC):Bool:=bif decide (t≥p.2.2.2.2.2.1) then decide (t≤p.2.2.2.2.2.2) else false
theorem OH {k:Nat}{l:List zC}(hk:l.length<k)(hl:yU l)(t:Int):Au k l t=some (l.filter (mh t)):=by
 unfold Au OI
 have := Z1 pd (L := fun n i s => EK k n l l.length i t s) (mh t) id (fun n s=>by
  show Av k _ l l.length l.length t s=_
  unfold Av
  simp only [qJ, ak (Nat.lt_irrefl _), ao]; rfl) (fun n i s hi hs=>by
  show Av k _ l l.length i t s=_
  unfold Av OJ OK
  unfold yU at hl
  simp only[qG,qK hi (show l.length<9223372036854775808 by omega),qJ,aJ,ah hi,an,rY (show s.length≤1000 by omega)]
  unfold mh
  cases h1:decide (t≥(l.getD i pd).2.2.2.2.2.1) with
  |false=>rfl
  |true=>
   cases h2:decide (t≤(l.getD i pd).2.2.2.2.2.2)<;>rfl) hk
 rw[this]
 rfl
def jF (f:Int)(p:zC):Bool:=decide (p.2.1=f)
def OM (r:List zC)(p:zC):Bool:=qE (fun x=>decide (((r.filter (jF p.2.1)).getD x pd).2.2.2.2.1=3)) (r.filter (jF p.2.1)).length 0
def ON (r:List zC)(p:zC):Bool:=decide ((r.filter (jF p.2.1)).getD 0 pd=p)
def rZ (r:List zC)(p:zC):Bool:=ON r p||OM r p
def wK (l:List zC)(t:Int):List zC:=(l.filter (mh t)).filter (rZ (l.filter (mh t)))
theorem eq7 (p q:zC):((decide (p.1=q.1))&&((decide (p.2.1=q.2.1))&&((decide (p.2.2.1=q.2.2.1))&&((decide (p.2.2.2.1=q.2.2.2.1))&&((decide (p.2.2.2.2.1=q.2.2.2.2.1))&&((decide (p.2.2.2.2.2.1=q.2.2.2.2.2.1))&&(decide (p.2.2.2.2.2.2=q.2.2.2.2.2.2))))))))=decide (p=q):=by
 obtain⟨a,b,c,d,e,f,g⟩:=p
 obtain⟨a',b',c',d',e',f',g'⟩:=q
 simp only[Prod.mk.injEq]
 rw[Bool.eq_iff_iff]
 simp only[bO,bH]
def uK (f:Int)(q:zC):Bool:=decide (q.2.1=f)&& !decide (q.2.2.2.2.1=3)
theorem ySl {k:Nat}{l:List zC}(hk:l.length<k)(hl:l.length<9223372036854775808)(i f t a c s e:Int):
  IL k l i f t a c s e=some (!qE (fun x=> !uK f (l.getD x pd)) l.length 0):=by
 obtain ⟨x, h1, h2⟩ := rO (L := fun n i' => Aw k n l l.length i' i f t a c s e) (N := l.length) (fun x => uK f (l.getD x pd)) (fun n=>by
  show Ax k _ l l.length l.length i f t a c s e=_
  unfold Ax
  simp only [qJ, ak (Nat.lt_irrefl _), ao]) (fun n j hj=>by
  show Ax k _ l l.length j i f t a c s e=_
  unfold Ax OO
  simp only[qG,qK hj hl,qJ,aJ,ah hj,an]
  unfold uK
  cases h1:decide ((l.getD j pd).2.1=f) with
  |false=>rfl
  |true=>cases h2:decide ((l.getD j pd).2.2.2.2.1=3)<;>rfl) hk
 unfold IL OP
 have fB:Aw k k l l.length 0 i f t a c s e=some x:=h1
 rw[fB]
 rw[←h2]
 cases x<;>rfl
theorem yUx (r:List zC)(p:zC):OM r p=true↔∀q∈r,q.2.1=p.2.1→q.2.2.2.2.1=3:=by
 unfold OM
 rw[fK]
 constructor
 ·intro h q hq he
  have hm:q∈r.filter (jF p.2.1):=List.mem_filter.2 ⟨hq,by simp[jF,he]⟩
  obtain⟨i,hi,e⟩:=List.getElem_of_mem hm
  have:=h i hi
  rw[List.getD_eq_getElem?_getD,List.getElem?_eq_getElem hi,e] at this
  simpa using this
 ·intro h j hj
  have hm:=jY (d:=pd) hj
  rw[List.mem_filter] at hm
  have:=h _ hm.1 (by simpa[jF] using hm.2)
  simpa using this
theorem yZp (r:List zC)(f:Int):qE (fun x=> !uK f (r.getD x pd)) r.length 0=true↔∀q∈r,q.2.1=f→q.2.2.2.2.1=3:=by
 rw[fK]
 constructor
 ·intro h q hq he
  obtain⟨i,hi,e⟩:=List.getElem_of_mem hq
  have:=h i hi
  rw[List.getD_eq_getElem?_getD,List.getElem?_eq_getElem hi,e] at this
  simpa[uK,he] using this
 ·intro h j hj
  have:=h _ (jY (d:=pd) hj)
  simp only[uK,Bool.not_eq_true',Bool.and_eq_false_iff,Bool.not_eq_false',bH,decide_eq_false_iff_not]
  by_cases c:(r.getD j pd).2.1=f
  ·exact .inr (this c)
  ·exact .inl c
theorem qO.split {r:List zC}(h:qO r){i:Nat}(hi:i<r.length):∀q∈r.take i,q.1≠(r.getD i pd).1:=by
 intro q hq
 have e:r.take (i+1)=r.take i++[r.getD i pd]:=(dE r i pd hi).symm
 have hs:qO (r.take (i+1)):=List.Pairwise.sublist (List.take_sublist _ _) h
 rw[e] at hs
 exact(List.pairwise_append.1 hs).2.2 q hq _ (List.mem_singleton.2 rfl)
theorem EL {α:Type}(r:List α)(i:Nat)(d:α)(hi:i<r.length):r=r.take i++r.getD i d::r.drop (i+1):=by
 conv=>lhs;rw[←List.take_append_drop i r]
 congr 1
 rw[List.drop_eq_getElem_cons hi]
 congr 1
 rw[List.getD_eq_getElem?_getD,List.getElem?_eq_getElem hi];rfl
theorem vAo {r:List zC}(h:qO r){i:Nat}(hi:i<r.length):ON r (r.getD i pd)= !(r.take i).any (jF (r.getD i pd).2.1):=by
 unfold ON
 have e:∀f,jF f (r.getD i pd)=true→r.filter (jF f)=(r.take i).filter (jF f)++r.getD i pd::(r.drop (i+1)).filter (jF f):=by
  intro f hf
  have:=congrArg (List.filter (jF f)) (EL r i pd hi)
  rwa [List.filter_append,List.filter_cons_of_pos hf] at this
 have e:=e (r.getD i pd).2.1 (by simp[jF])
 rw[e]
 cases ha:(r.take i).any (jF (r.getD i pd).2.1) with
 |false=>
  have:(r.take i).filter (jF (r.getD i pd).2.1)=[]:=by
   rw[List.filter_eq_nil_iff]
   intro q hq hf
   rw[List.any_eq_false] at ha
   exact ha q hq hf
  rw[this]
  simp
 |true=>
  cases hf:(r.take i).filter (jF (r.getD i pd).2.1) with
  |nil=>
   rw[List.filter_eq_nil_iff] at hf
   rw[List.any_eq_true] at ha
   obtain⟨q,h1,h2⟩:=ha
   exact absurd h2 (hf q h1)
  |cons q l=>
   have hq:q∈r.take i:=(List.mem_filter.1 (hf▸List.mem_cons_self ..:q∈(r.take i).filter _)).1
   have:=h.split hi q hq
   have e2:(q::l++r.getD i pd::(r.drop (i+1)).filter (jF (r.getD i pd).2.1)).getD 0 pd=q:=rfl
   rw[e2]
   simp only[aW,decide_eq_false_iff_not]
   intro c
   exact this (by rw[c])
theorem vDf {r:List zC}(h:qO r){i:Nat}(hi:i<r.length):
  rZ r (r.getD i pd)=(!(r.take i).any (jF (r.getD i pd).2.1)||(decide ((r.getD i pd).2.2.2.2.1=3)&&qE (fun x=> !uK (r.getD i pd).2.1 (r.getD x pd)) r.length 0)):=by
 unfold rZ
 rw[vAo h hi]
 congr 1
 rw[Bool.eq_iff_iff,yUx,bO,yZp,bH]
 exact⟨fun g=>⟨g _ (jY hi) rfl,g⟩,fun g=>g.2⟩
theorem lookup_cons (f g:Int)(l:List (Int×Bool)):(List.lookup f ((g,true)::l)).getD false=(decide (f=g)||(List.lookup f l).getD false):=by
 rw[List.lookup_cons]
 by_cases c:f=g
 ·subst c;simp
 ·have:(f==g)=false:=by simpa using c
  rw[this]
  simp[c]
theorem Z2 {k:Nat}{l:List zC}(hk:l.length<k)(hl:yU l)(hd:qO l)(t:Int):EM k l t=some (wK l t):=by
 unfold EM
 rw[OH hk hl]
 simp only[aj]
 unfold wK
 have fe:(l.filter (mh t)).length≤l.length:=List.length_filter_le _ _
 have re:=hd.filter (mh t)
 generalize l.filter (mh t)=r at fe re
 unfold yU at hl
 unfold OQ
 obtain ⟨s', h1, h2, h3⟩ := wE (L := fun n i (s : List (Int × Bool) × List zC) => Ay k n r r.length i s.1 r s.2) (N := r.length) (fun s => (s.1, r, s.2)) (fun i s => (∀ f, (List.lookup f s.1).getD false = (r.take i).any (jF f)) ∧ s.2 = (r.take i).filter (rZ r)) (fun n s _=>by
  show Az k _ r r.length r.length s.1 r s.2=_
  unfold Az
  simp only [qJ, ak (Nat.lt_irrefl _), ao]) (fun n i s hi hs=>by
  refine⟨(((r.getD i pd).2.1,true)::s.1,bif rZ r (r.getD i pd) then s.2++[r.getD i pd] else s.2),?_,?_,?_⟩
  ·show Az k _ r r.length i s.1 r s.2=_
   unfold Az OR
   have hlen:s.2.length≤i:=by
    rw[hs.2]
    have:=List.length_filter_le (rZ r) (r.take i)
    rw[List.length_take] at this
    omega
   have hc:=ySl (k:=k) (l:=r) (by omega) (by omega) (r.getD i pd).1 (r.getD i pd).2.1 (r.getD i pd).2.2.1 (r.getD i pd).2.2.2.1 (r.getD i pd).2.2.2.2.1 (r.getD i pd).2.2.2.2.2.1 (r.getD i pd).2.2.2.2.2.2
   have o6:=hs.1 (r.getD i pd).2.1
   have hp:=vDf re hi
   simp only[pd] at hc o6 hp⊢
   simp only[qG,qK hi (show r.length<9223372036854775808 by omega),qJ,aJ,ah hi,an,rY (show s.2.length≤1000 by omega)]
   rw[hc,o6,hp]
   generalize (r.take i).any _=x
   generalize qE _ _ 0=y
   generalize decide ((r.getD i (0,(0,(0,(0,(0,(0,0))))))).2.2.2.2.1=3)=z
   cases x<;>cases y<;>cases z<;>rfl
  ·intro f
   rw[lookup_cons,hs.1 f,←dE r i pd hi,List.any_append,Bool.or_comm]
   congr 1
   simp only[List.any_cons,List.any_nil,Bool.or_false,jF]
   rw[Bool.eq_iff_iff]
   simp only[bH]
   exact eq_comm
  ·show(bif rZ r (r.getD i pd) then s.2++[r.getD i pd] else s.2)=_
   rw[hs.2,EJ _ _ _ pd hi]
   cases rZ r (r.getD i pd)<;>simp) (s:=([],[])) (show r.length<k by omega) ⟨fun f=>by simp,by simp⟩
 have fB:Ay k k r r.length 0 [] r []=some (s'.1,r,s'.2):=h1
 rw[fB,h3,List.take_length]
 rfl
def sb (p:Nat→Bool):Nat→Nat→Option Nat
 |0,_=>none
 |c+1,i=>bif p i then some i else sb p c (i+1)
def Z3:Option Nat→Unit⊕Int
 |some x=>.inr (x:Int)
 |none=>.inl ()
theorem Z4 {L:Nat→Int→Option (Unit⊕Int)}{N:Nat} bad (bp:∀n,L (n+1) (N:Int)=some (.inl ()))
  (aC:∀n i,i<N→L (n+1) (i:Int)=bif bad i then some (.inr (i:Int)) else L n ((i+1:Nat):Int)):
  ∀c i n,i+c=N→c<n→L n (i:Int)=some (Z3 (sb bad c i))
 |0,i,n,h,hn=>by
  obtain⟨n,rfl⟩:∃m,n=m+1:=⟨n-1,by omega⟩
  have:i=N:=by omega
  subst this
  exact bp n
 |c+1,i,n,h,hn=>by
  obtain⟨n,rfl⟩:∃m,n=m+1:=⟨n-1,by omega⟩
  rw[aC n i (by omega)]
  unfold sb
  cases hb:bad i with
  |true=>rfl
  |false=>
   exact Z4 bad bp aC c (i+1) n (by omega) (by omega)
theorem Z5 {p}:∀{c i x},sb p c i=some x→i≤x∧x<i+c∧p x=true∧∀j,i≤j→j<x→p j=false
 |c+1,i,x,h=>by
  unfold sb at h
  cases hp:p i with
  |true=>
   grind
  |false=>
   rw[hp] at h
   obtain⟨h1,h2,h3,h4⟩:=Z5 h
   grind
theorem Z6 {p}:∀{c i},sb p c i=none→∀j,i≤j→j<i+c→p j=false
 |0,_,_=>by grind
 |c+1,i,h=>by
  unfold sb at h
  cases hp:p i with
  |true=>
   simp_all
  |false=>
   rw[hp] at h
   intro j j1 j2
   by_cases e:j=i
   ·simp_all
   ·exact Z6 h j (by omega) (by omega)
def wO (l:List zC)(id:Int):Option Nat:=sb (fun x=>decide ((l.getD x pd).1=id)) l.length 0
def pv (l:List zC)(id:Int):Int:=match wO l id with|some x=>(x:Int)|none=>-1
theorem lg {l id x}(h:wO l id=some x):x<l.length∧(l.getD x pd).1=id:=by
 obtain⟨_,h2,h3,_⟩:=Z5 h
 simp_all
theorem yN2 {l id}(h:wO l id=none):∀p∈l,p.1≠id:=by
 intro p hp e
 obtain⟨i,hi,e'⟩:=List.getElem_of_mem hp
 have:=Z6 h i (by omega) (by omega)
 simp_all
theorem IM {l p}(h:p∈l):∃x,wO l p.1=some x:=by
 cases e:wO l p.1 with
 |some x=>simp
 |none=>exact absurd rfl (yN2 e p h)
theorem AA {k}{l:List zC}(hk:l.length<k)(hl:l.length<9223372036854775808) id:lh k l id=some (pv l id):=by
 have := Z4 (L := fun n i => AB k n l l.length i id) (N := l.length) (fun x => decide ((l.getD x pd).1 = id)) (fun n=>by
  show AE k _ l l.length l.length id=_
  unfold AE
  simp) (fun n j hj=>by
  show AE k _ l l.length j id=_
  unfold AE OT
  simp only[qG,qK hj hl,qJ,ah hj]
  rfl) l.length 0 k (by omega) hk
 have h1:AB k k l l.length 0 id=some (Z3 (wO l id)):=this
 unfold lh OU pv
 rw[h1]
 cases wO l id<;>rfl
def vL (l:List zC)(x:Nat):List zC:=l.take x++l.drop (x+1)
theorem nH {l x}(h:x<l.length):(vL l x).length=l.length-1:=by
 unfold vL
 grind
theorem pw l x:List.Sublist (vL l x) l:=by
 unfold vL
 conv=>rhs;rw[←List.take_append_drop x l]
 grind
theorem qO.cut {l}(h:qO l) x:qO (vL l x):=List.Pairwise.sublist (pw l x) h
theorem Z7 k {l}{x:Nat}(hx:x<l.length)(hl:yU l):EN k l x ((x+1:Nat):Int)=some (vL l x):=by
 unfold EN
 have c1:(decide ((0:Int)≤(x:Int)))=true:=by simp
 have c2:decide ((x:Int)≤((x+1:Nat):Int))=true:=ah (by omega)
 have c3:decide (((x+1:Nat):Int)≤(l.length:Int))=true:=ah (by omega)
 have c4:decide ((l.length:Int)≤(l.length:Int))=true:=by simp
 have c5:decide ((x:Int)=((x+1:Nat):Int))=false:=ak (by omega)
 have c6:decide ((x:Int)≤(l.length:Int))=true:=ah (by omega)
 have c7:decide ((0:Int)≤((x+1:Nat):Int))=true:=ah (by omega)
 have c8:Nat.ble (x-0) (0+(x+1))=true:=by simp
 simp only[aJ,c1,c2,c3,c4,c5,c6,c7,c8,ao]
 have e0:x-0+(l.length-(x+1))=l.length-1:=by omega
 have e1:List.take (x-0) l++qQ l (0+(x+1)) (l.length-(x+1))=vL l x:=by
  unfold qQ vL
  rw[Nat.sub_zero,Nat.zero_add]
  congr 1
  rw[List.take_of_length_le]
  rw[List.length_drop]
  exact Nat.le_refl _
 have e2:(qQ (vL l x++List.drop (l.length-1) l) 0 (l.length-1))=vL l x:=by
  unfold qQ
  rw[List.drop_zero,List.take_append_of_le_length (by rw[nH hx];exact Nat.le_refl _),List.take_of_length_le (by rw[nH hx];exact Nat.le_refl _)]
 have e3:(vL l x++List.drop (l.length-1) l).length=l.length:=by
  rw[List.length_append,List.length_drop,nH hx];omega
 have c9:decide ((0:Int)≤((vL l x).length:Int))=true:=by simp
 have c10:decide (((vL l x).length:Int)≤(l.length:Int))=true:=by grind
 have c11:decide ((l.length:Int)≤((l.length-0:Nat):Int))=true:=by simp
 have e4:List.take (0+(vL l x).length) (vL l x++List.drop (l.length-1) l)=vL l x:=by
  rw[Nat.zero_add,List.take_append_of_le_length (Nat.le_refl _),List.take_of_length_le (Nat.le_refl _)]
 simp only[e0,e1,e2,e3,c9,c10,c11,e4,Bool.and_true,an]
 rw[List.append_assoc,List.take_append_of_le_length (by rw[nH hx];exact Nat.le_refl _),List.take_of_length_le (by rw[nH hx];exact Nat.le_refl _)]
def mi (l:List zC)(id:Int):List zC×Int×Int×Int×Int×Int×Int×Int×Int:=match wO l id with
 |some x=>(vL l x,(l.getD x pd).1,(l.getD x pd).2.1,(l.getD x pd).2.2.1,(l.getD x pd).2.2.2.1,(l.getD x pd).2.2.2.2.1,(l.getD x pd).2.2.2.2.2.1,(l.getD x pd).2.2.2.2.2.2,0)
 |none=>(l,0,0,0,0,0,0,0,4)
theorem uL {k l}(hk:l.length<k)(hl:yU l) id:mj k l id=some (mi l id):=by
 unfold yU at hl
 unfold mj
 rw[AA hk (by omega)]
 unfold pv mi
 cases hp:wO l id with
 |none=>rfl
 |some x=>
  have hx:=(lg hp).1
  have e1:decide ((x:Int)<0)=false:=by simp
  have e2:sd k l=some l:=by
   unfold sd
   rw[qU (by omega) (by omega)]
   rfl
  simp only[aj,e1,ao,e2,qK hx (by grind),Z7 k hx hl,qG,ah hx,an,aJ]
def eL (q p:zC):Bool:=decide (q.2.1<p.2.1)||(decide (q.2.1=p.2.1)&&decide (q.2.2.2.2.1≤p.2.2.2.2.1))
def lj (q p:zC):Bool:=decide (q.2.1<p.2.1)||(decide (q.2.1=p.2.1)&&decide (q.2.2.2.2.1<p.2.2.2.2.1))
theorem yN0 n x y:IN (n+3) [x,y]=some (if x=0 then y else x):=by
 have key:∀n:Nat,EO (n+3) (n+3) 0 [x,y] 2 0=bif !decide (x=0) then some (.inr x) else bif !decide (y=0) then some (.inr y) else some (.inl 0):=fun n=>rfl
 unfold IN
 grind
theorem yWg k a b:EP k a b=some (if a<b then-1 else if a>b then 1 else 0):=by
 unfold EP IP
 grind
theorem OV {k}(hk:3≤k) q p:∃x,AF k q.1 q.2.1 q.2.2.1 q.2.2.2.1 q.2.2.2.2.1 q.2.2.2.2.2.1 q.2.2.2.2.2.2 p.1 p.2.1 p.2.2.1 p.2.2.2.1 p.2.2.2.2.1 p.2.2.2.2.2.1 p.2.2.2.2.2.2=some x∧decide (x≤0)=eL q p∧decide (x<0)=lj q p:=by
 obtain⟨n,rfl⟩:∃n,k=n+3:=⟨k-3,by omega⟩
 unfold AF
 simp only[yWg,yN0]
 refine⟨_,rfl,?_,?_⟩
 ·unfold eL
  grind
 ·unfold lj
  grind
def ER (ok:Nat→Bool):Nat→Nat→Nat
 |0,i=>i
 |c+1,i=>bif ok i then ER ok c (i+1) else i
theorem OW {X:Type}{L:Nat→Int→Option X}{N:Nat} ok (e:Nat→X)(bp:∀n,L (n+1) (N:Int)=some (e N))
  (aC:∀n i,i<N→L (n+1) (i:Int)=bif ok i then L n ((i+1:Nat):Int) else some (e i)):∀c i n,i+c=N→c<n→L n (i:Int)=some (e (ER ok c i))
 |0,i,n,h,hn=>by
  obtain⟨n,rfl⟩:∃m,n=m+1:=⟨n-1,by omega⟩
  have:i=N:=by omega
  subst this
  exact bp n
 |c+1,i,n,h,hn=>by
  obtain⟨n,rfl⟩:∃m,n=m+1:=⟨n-1,by omega⟩
  rw[aC n i (by omega)]
  unfold ER
  cases ok i with
  |false=>rfl
  |true=>exact OW ok e bp aC c (i+1) n (by omega) (by omega)
theorem OX {α:Type} f (l:List α) d:∀c i,i+c=l.length→ER (fun x=>f (l.getD x d)) c i=i+((l.drop i).takeWhile f).length
 |0,i,h=>by
  rw[List.drop_eq_nil_of_le (by omega)]
  rfl
 |c+1,i,h=>by
  rw[List.drop_eq_getElem_cons (by grind)]
  unfold ER
  have e:l.getD i d=l[i]:=by grind
  rw[e]
  cases hf:f l[i] with
  |false=>rw[List.takeWhile_cons_of_neg (by simp[hf])];rfl
  |true=>
   rw[List.takeWhile_cons_of_pos hf,an,OX f l d c (i+1) (by omega),List.length_cons]
   omega
theorem IQ {α:Type} f (l:List α):l.take (l.takeWhile f).length=l.takeWhile f∧l.drop (l.takeWhile f).length=l.dropWhile f:=by
 have e:=List.takeWhile_append_dropWhile (p:=f) (l:=l)
 grind
theorem Z8 {α:Type} f (l:List α):(l.takeWhile f).length≤l.length:=(List.takeWhile_sublist f).length_le
theorem OY {α b} f l (p:α)(hl:l.length≤1000)(hb:b≤1000):ins b l (((l.takeWhile f).length:Nat):Int) [p]=some (l.takeWhile f++(p::l.dropWhile f)):=by
 unfold ins
 have h:=Z8 f l
 have hm:(l.length+1)*b≤1001*1000:=Nat.mul_le_mul (by omega) hb
 rw[ah (by simp),ah (by grind),qU (by grind) (by omega),aJ,(IQ f l).1,(IQ f l).2]
 rfl
def px (l:List zC)(p:zC):List zC:=l.takeWhile (fun q=>eL q p)++(p::l.dropWhile (fun q=>eL q p))
def IS (l:List zC)(p:zC):List zC:=l.takeWhile (fun q=>lj q p)++(p::l.dropWhile (fun q=>lj q p))
theorem Z9 {k l}(hl:yU l):sd k l=some l:=by
 unfold yU at hl
 unfold sd
 rw[qU (by omega) (by omega)]
 rfl
theorem yWo {k}(hk:3≤k) l (hl:yU l)(cn:l.length<k)(p:zC):ES k k l 0 p=some (l,(((l.takeWhile (fun q=>eL q p)).length:Nat):Int),p):=by
 unfold yU at hl
 have := OW (L := fun n i => ES k n l i p) (N := l.length) (fun x => eL (l.getD x pd) p) (fun i => (l, (i : Int), p)) (fun n=>by
  show AG k _ l l.length p=_
  unfold AG
  simp) (fun n i hi=>by
  show AG k _ l i p=_
  unfold AG
  obtain⟨x,h1,h2,_⟩:=OV hk (l.getD i pd) p
  simp only[qG,qJ,aJ,ah hi,h1,aj,h2,qK hi (by grind)]
  rfl) l.length 0 k (by omega) cn
 have e:((0:Nat):Int)=0:=rfl
 rw[e] at this
 rw[this,OX (fun q=>eL q p) l pd l.length 0 (by omega),List.drop_zero,Nat.zero_add]
theorem OZ {k l}(hk:3≤k)(cn:l.length<k)(hl:yU l)(p:zC):
  se k l p=some (bif (wO l p.1).isSome then(l,6) else bif decide (40≤l.length) then(l,3) else(px l p,0)):=by
 have fe:=hl
 unfold yU at hl
 unfold se
 rw[AA cn (by omega)]
 unfold pv
 cases hp:wO l p.1 with
 |some x=>
  rfl
 |none=>
  by_cases h:40≤l.length
  ·grind
  ·rw[ak h,ak (by grind)]
   simp[yWo hk l fe cn,Z9 fe,IT]
   rw[OY _ l p hl (by decide)]
   rfl
theorem O0 {l x}(h:yU l):yU (vL l x):=by
 unfold yU at*
 have:=(pw l x).length_le
 omega
def ET (l:List zC)(id:Int):List zC:=match wO l id with|some x=>vL l x|none=>l
theorem yJe {l id}(hd:qO l):wO (ET l id) id=none:=by
 cases h:wO (ET l id) id with
 |none=>rfl
 |some y=>
  exfalso
  obtain⟨h1,h2⟩:=lg h
  unfold ET at h h1 h2
  cases hp:wO l id with
  |none=>
   rw[hp] at h
   rw[hp] at h;cases h
  |some x=>
   rw[hp] at h1 h2
   obtain⟨h3,h4⟩:=lg hp
   have hm:=jY (d:=pd) h1
   have e:=EL l x pd h3
   rw[e] at hd
   have EU:=List.pairwise_append.1 hd
   have O1:=List.pairwise_cons.1 EU.2.1
   rcases List.mem_append.1 hm with hm|hm
   ·exact EU.2.2 _ hm _ (List.mem_cons_self ..) (h2.trans h4.symm)
   ·exact O1.1 _ hm (h4.trans h2.symm)
theorem yLx {k l}(hk:3≤k)(cn:l.length<k)(hl:yU l)(hd:qO l)(h40:l.length≤40){id x}(hx:wO l id=some x) c:
  AH k l id c=some (px (vL l x) ((l.getD x pd).1,(l.getD x pd).2.1,(l.getD x pd).2.2.1,(l.getD x pd).2.2.2.1,c,(l.getD x pd).2.2.2.2.2.1,(l.getD x pd).2.2.2.2.2.2),0):=by
 have gh:=lg hx
 have hw:=yJe (id:=id) hd
 unfold ET at hw
 have hlen:=nH gh.1
 unfold AH
 rw[uL cn hl]
 unfold mi
 rw[hx]
 simp
 rw[OZ hk (by omega) (O0 hl)]
 grind
theorem yPg {k l}(hk:3≤k)(cn:l.length<k)(hl:yU l)(hd:qO l)(h40:l.length≤40){id x}(hx:wO l id=some x):
  AI k l id=some (px (vL l x) (l.getD x pd),0):=by
 have gh:=lg hx
 have hw:=yJe (id:=id) hd
 unfold ET at hw
 have hlen:=nH gh.1
 unfold AI
 rw[uL cn hl]
 unfold mi
 rw[hx]
 simp
 rw[OZ hk (by omega) (O0 hl)]
 grind
theorem vDx {k}(hk:3≤k) l (hl:yU l)(cn:l.length<k)(p:zC):EV k k 0 l p=some ((((l.takeWhile (fun q=>lj q p)).length:Nat):Int),l,p):=by
 unfold yU at hl
 have := OW (L := fun n i => EV k n i l p) (N := l.length) (fun x => lj (l.getD x pd) p) (fun i => ((i : Int), l, p)) (fun n=>by
  show AJ k _ l.length l p=_
  unfold AJ
  simp) (fun n i hi=>by
  show AJ k _ i l p=_
  unfold AJ
  obtain⟨x,h1,_,h2⟩:=OV hk (l.getD i pd) p
  simp only[qG,qJ,aJ,ah hi,h1,aj,h2,qK hi (by grind)]
  rfl) l.length 0 k (by omega) cn
 have e:((0:Nat):Int)=0:=rfl
 rw[e] at this
 rw[this,OX (fun q=>lj q p) l pd l.length 0 (by omega),List.drop_zero,Nat.zero_add]
theorem yVi {k l}(hk:3≤k)(cn:l.length<k)(hl:yU l){id x}(hx:wO l id=some x):
  AK k l id=some (IS (vL l x) (l.getD x pd),0):=by
 have fe:=hl
 unfold yU at hl
 have gh:=lg hx
 have hlen:=nH gh.1
 have e1:decide ((x:Int)<0)=false:=by simp
 unfold AK O2
 rw[AA cn (by omega)]
 unfold pv
 rw[hx]
 simp only[aj,e1,ao,Z9 fe,qK gh.1 (by grind),Z7 k gh.1 fe,qG,ah gh.1,an]
 rw[vDx hk (vL l x) (O0 fe) (by omega)]
 simp[IT]
 rw[OY _ (vL l x) _ (by omega) (by decide)]
 rfl
def jI (l:AC)(id:Int):Nat:=(l.takeWhile (fun x=>decide (x<id))).length
theorem ySs {x}(h0:0≤x)(h1:x<9223372036854775808):zA (shr .u64 (IntKind.wrap .u64 (zA x)) 1)=x/2:=by
 have e1:zA x=x:=qI (by omega) h1
 have e2:IntKind.wrap .u64 x=x:=by
  unfold IntKind.wrap
  simp[IntKind.bits]
  omega
 rw[e1,e2]
 have e3:shr .u64 x 1=x/2:=by
  have:(2:Int)^(min (1:Int).toNat (IntKind.bits .u64))=2:=by decide
  grind
 rw[e3]
 exact qI (by omega) (by omega)
theorem vG4 k a b:IU k a b=some (decide (a<b)):=by
 unfold IU IV
 simp
theorem O3 {k l id}(hl:l.length≤1000){c:Nat}(hc:c≤l.length)(h1:∀x,x<c→l.getD x 0<id)(h2:∀x,c≤x→x<l.length→id≤l.getD x 0) s6:
  ∀n i j,i≤c→c≤j→j≤l.length→j-i<n→EW k n l id s6 i j=some (l,id,s6,(c:Int))
 |n+1,i,j,hi,hj,mZ,hn=>by
  show IW k (EW k n) l id s6 i j=_
  unfold IW
  rw[qJ]
  by_cases kL:i<j
  ·have hh:zA (shr .u64 (IntKind.wrap .u64 (zA ((i:Int)+(j:Int)))) 1)=(((i+j)/2:Nat):Int):=by
    rw[ySs (by omega) (by omega)];omega
   have hm:(i+j)/2<l.length:=by omega
   rw[ah kL,an,hh,qG,ah hm,an,vG4]
   simp only[aj,aJ]
   by_cases aT:(i+j)/2<c
   ·rw[ah (h1 _ aT),an,qK hm (by omega)]
    exact O3 hl hc h1 h2 s6 n _ j (by omega) hj mZ (by omega)
   ·rw[ak (by grind),ao]
    exact O3 hl hc h1 h2 s6 n i _ hi (by omega) (by omega) (by omega)
  grind
theorem yRt {k l id}(cn:l.length<k)(hl:l.length≤1000){c:Nat}(hc:c≤l.length)(h1:∀x,x<c→l.getD x 0<id)(h2:∀x,c≤x→x<l.length→id≤l.getD x 0):
  AL k l id=some ((c:Int),decide (c<l.length)&&decide (l.getD c 0=id)):=by
 unfold AL
 have:=O3 (k:=k) hl hc h1 h2 (l.length:Int) k 0 l.length (by omega) hc (by simp) (by omega)
 rw[show((0:Nat):Int)=0 from rfl] at this
 rw[this]
 simp only[aj,qG,aJ]
 by_cases h:c<l.length
 ·simp only[ah h]
  by_cases h3:l.getD c 0=id
  ·simp_all
  ·rw[ak h3]
   unfold IX
   simp
 grind
def py (l:AC):Prop:=List.Pairwise (fun a b=>a<b) l
theorem qSt {l id}:∀x,x<jI l id→l.getD x 0<id:=by
 intro x hx
 unfold jI at hx
 have h:=IQ (fun x=>decide (x<id)) l
 have e:l.getD x 0=(l.takeWhile (fun x=>decide (x<id))).getD x 0:=by
  grind
 have hm:=jY (d:=(0:Int)) hx
 have:=List.all_eq_true.1 (List.all_takeWhile (p:=fun x=>decide (x<id)) (l:=l)) _ hm
 simp_all
theorem yLc {l}(ha:py l){id}:∀x,jI l id≤x→x<l.length→id≤l.getD x 0:=by
 intro x hx hl
 have hi:jI l id<l.length:=by omega
 have h:=IQ (fun x=>decide (x<id)) l
 have h0:¬l.getD (jI l id) 0<id:=by
  have hd:l.drop (jI l id)=l[jI l id]::l.drop (jI l id+1):=by simp
  have h2:=h.2
  unfold jI at hd
  rw[h2] at hd
  have aV:l.dropWhile (fun x=>decide (x<id))≠[]:=by rw[hd];simp
  have:=List.head_dropWhile_not (fun x=>decide (x<id)) aV
  have e:(l.dropWhile (fun x=>decide (x<id))).head aV=l[jI l id]:=by
   unfold jI
   simp_all
  simp_all
 by_cases e:x=jI l id
 ·rw[e];omega
 ·have:=List.pairwise_iff_getElem.1 ha (jI l id) x hi hl (by omega)
  grind
theorem yVb {l}(ha:py l) id:(decide (jI l id<l.length)&&decide (l.getD (jI l id) 0=id))=decide (id∈l):=by
 by_cases hm:id∈l
 ·obtain⟨x,hx,e⟩:=List.getElem_of_mem hm
  have e':l.getD x 0=id:=by simp_all
  have h1:¬x<jI l id:=fun h=>by have:=qSt x h;omega
  have h3:jI l id<l.length:=by omega
  have h4:¬jI l id<x:=fun h=>by
   have g1:=yLc ha (id:=id) (jI l id) (by simp) h3
   have g2:=List.pairwise_iff_getElem.1 ha (jI l id) x h3 hx h
   grind
  grind
 grind
def pz (l:AC)(id:Int):AC:=l.takeWhile (fun x=>decide (x<id))++(id::l.dropWhile (fun x=>decide (x<id)))
theorem qQk {k l}(cn:l.length<k)(hl:l.length≤1000)(ha:py l) id:AL k l id=some ((jI l id:Int),decide (id∈l)):=by
 rw[yRt cn hl (Z8 _ l) qSt (yLc ha)]
 show some ((jI l id:Int),decide (jI l id<l.length)&&decide (l.getD (jI l id) 0=id))=_
 rw[yVb ha]
theorem yYa {k l}(cn:l.length<k)(hl:l.length≤1000)(ha:py l) id:IY k l id=some (decide (id∈l)):=by
 unfold IY
 rw[qQk cn hl ha]
 rfl
theorem yYn {k l}(cn:l.length<k)(hl:l.length≤1000)(ha:py l) id:
  AM k l id=some (bif decide (id∈l) then(l,6) else bif decide (200≤l.length) then(l,3) else(pz l id,0)):=by
 unfold AM
 rw[qQk cn hl ha]
 by_cases hm:id∈l
 ·simp_all
 ·rw[ak hm]
  by_cases h:200≤l.length
  ·grind
  ·rw[ak h,ak (by grind)]
   have e2:me k l=some l:=by
    unfold me
    rw[qU (by omega) (by omega)]
    rfl
   simp[e2,yAh]
   unfold jI
   rw[OY _ l id hl (by decide)]
   rfl
def fi (l:AC):Int:=zL (fun x=>x) l
def sf (x:Int):Bool:=decide (-9223372036854775808≤x)&&decide (x<9223372036854775808)
theorem qTz x:shr .i64 x 63=x/9223372036854775808:=by
 show x.fdiv (2^(min 63 64))=_
 grind
theorem mm x:IntKind.wrap .u64 x=x%18446744073709551616:=by
 rfl
theorem yVc {x}(h:0≤x∧x<18446744073709551616):zA x=if x<9223372036854775808 then x else x-18446744073709551616:=by
 unfold zA IntKind.wrap
 simp[IntKind.bits,IntKind.signed]
 grind
theorem vEv (l:AC) i (hi:i<l.length):fi (l.take (i+1))=fi (l.take i)+l.getD i 0:=by
 have:l.take (i+1)=l.take i++[l.getD i 0]:=by
  simp_all
 unfold fi
 rw[this,iE]
 simp[zL]
theorem qTt {k l}(hk:l.length<k)(hl:l.length≤1000000)(hw:∀i,i<l.length→-9223372036854775808≤l.getD i 0∧l.getD i 0<9223372036854775808):
  AN k l=some (bif sf (fi l) then(fi l,true) else(0,false)):=by
 obtain ⟨s', g1, g2, g3, g4⟩ := wE (L := fun n i (s : Int × Int) => AO k n s.1 s.2 l (l.length : Int) i) (N := l.length) (fun s => (s.1, s.2)) (fun i s => (0 ≤ s.2 ∧ s.2 < 18446744073709551616) ∧ s.1 * 18446744073709551616 + s.2 = fi (l.take i) ∧ (-(i : Int) ≤ s.1 ∧ s.1 ≤ i)) (fun n s _=>by
  show AP k _ s.1 s.2 l l.length l.length=_
  unfold AP
  simp only [qJ, ak (Nat.lt_irrefl _), ao]) (fun n i s hi hs=>by
  obtain⟨h,lo⟩:=s
  obtain⟨⟨h1,h2⟩,h3,h4⟩:=hs
  simp only at h1 h2 h3 h4
  show∃s',AP k _ h lo l l.length i=_∧_
  unfold AP yf
  have hb:=hw i hi
  have sg:=vEv l i hi
  obtain⟨v,hv⟩:∃v,l.getD i 0=v:=⟨_,rfl⟩
  rw[hv] at hb sg
  simp only[qJ,qG,aJ,ah hi,an,hv,mm,qTz,decide_true,aj,qK hi (show l.length<9223372036854775808 by omega)]
  obtain⟨u,hu⟩:∃u,v%18446744073709551616=u:=⟨_,rfl⟩
  rw[hu]
  obtain⟨q,hq⟩:∃q,v/9223372036854775808=q:=⟨_,rfl⟩
  rw[hq]
  have mT:u=v-q*18446744073709551616:=by omega
  have lk:q=0∨q= -1:=by omega
  obtain⟨a,ha⟩:∃a:Nat,lo.toNat+u.toNat+0=a:=⟨_,rfl⟩
  rw[ha]
  have mO:(a:Int)=lo+u:=by omega
  obtain⟨c,hc⟩:∃c:Nat,a/18446744073709551616=c:=⟨_,rfl⟩
  obtain⟨m,hm⟩:∃c:Nat,a%18446744073709551616=c:=⟨_,rfl⟩
  rw[hc,hm]
  have hcm:a=c*18446744073709551616+m:=by omega
  have ku:m<18446744073709551616:=by omega
  have hY:c≤1:=by omega
  have e1:zA (Int.ofNat c)=(c:Int):=qI (by show(_:Int)≤((c:Nat):Int);omega) (by show((c:Nat):Int)<_;omega)
  have e2:zA (q+(c:Int))=q+c:=qI (by omega) (by omega)
  have e3:zA (h+(q+(c:Int)))=h+(q+c):=qI (by omega) (by omega)
  rw[e1,e2,e3]
  refine⟨(h+(q+c),(m:Int)),rfl,by grind,?_,?_⟩
  ·rw[sg]
   show(h+(q+c))*18446744073709551616+(m:Int)=_
   omega
  ·show-((i+1:Nat):Int)≤h+(q+c)∧h+(q+c)≤((i+1:Nat):Int)
   omega) (s:=(0,0)) hk ⟨⟨by show(0:Int)≤0;omega,by show(0:Int)<_;omega⟩,rfl,by show-((0:Nat):Int)≤0;omega,by show(0:Int)≤((0:Nat):Int);omega⟩
 have O4:AO k k 0 0 l (l.length:Int) 0=some (s'.1,s'.2):=g1
 rw[List.take_length] at g3
 unfold AN
 rw[O4]
 simp only[aj,qTz]
 rw[yVc g2]
 by_cases c:sf (fi l)=true
 ·have c':-9223372036854775808≤fi l∧fi l<9223372036854775808:=by simpa[sf] using c
  rw[c]
  by_cases d:s'.2<9223372036854775808
  ·rw[if_pos d,ah (show s'.1=s'.2/9223372036854775808 by omega)]
   simp only[aW,ao,an]
   rw[show s'.2=fi l by omega]
  ·rw[if_neg d,ah (show s'.1=(s'.2-18446744073709551616)/9223372036854775808 by omega)]
   simp only[aW,ao,an]
   rw[show s'.2-18446744073709551616=fi l by omega]
 ·have c':¬(-9223372036854775808≤fi l∧fi l<9223372036854775808):=by simpa[sf] using c
  rw[Bool.not_eq_true] at c
  rw[c]
  by_cases d:s'.2<9223372036854775808
  ·rw[if_pos d,ak (show¬s'.1=s'.2/9223372036854775808 by omega)]
   rfl
  ·rw[if_neg d,ak (by grind)]
   rfl
theorem O5 {x:Int}(h:0≤x):gO .u64 x 4294967295=x%4294967296:=by
 obtain⟨n,rfl⟩:=Int.eq_ofNat_of_zero_le h
 unfold gO td
 rw[mm]
 have e1:(BitVec.ofInt IntKind.u64.bits (n:Int)&&&BitVec.ofInt IntKind.u64.bits 4294967295).toNat=n%4294967296:=by
  rw[BitVec.toNat_and,BitVec.toNat_ofInt,BitVec.toNat_ofInt]
  have e2:((4294967295:Int)%((2^IntKind.u64.bits:Nat):Int)).toNat=2^32-1:=by decide
  rw[e2,Nat.and_two_pow_sub_one_eq_mod]
  have e3:((n:Int)%((2^IntKind.u64.bits:Nat):Int)).toNat=n%18446744073709551616:=by
   show((n:Int)%((18446744073709551616:Nat):Int)).toNat=_
   omega
  rw[e3]
  show n%18446744073709551616%4294967296=_
  omega
 rw[e1]
 omega
theorem yPo (x:Int):shr .u64 x 32=x/4294967296:=by
 show x.fdiv (2^(min 32 64))=_
 rw[Int.fdiv_eq_ediv_of_nonneg _ (by decide)]
 rfl
theorem yRd {a1 a0 b1 b0:Int}:(a1*4294967296+a0)*(b1*4294967296+b0)=a1*b1*18446744073709551616+(a1*b0+a0*b1)*4294967296+a0*b0:=by
 rw[Int.add_mul,Int.mul_add,Int.mul_add]
 have e1:a1*4294967296*(b1*4294967296)=a1*b1*18446744073709551616:=by
  rw[Int.mul_assoc,←Int.mul_assoc 4294967296 b1,Int.mul_comm 4294967296 b1,Int.mul_assoc b1,←Int.mul_assoc];rfl
 have e2:a1*4294967296*b0=a1*b0*4294967296:=by rw[Int.mul_assoc,Int.mul_comm 4294967296 b0,←Int.mul_assoc]
 have e3:a0*(b1*4294967296)=a0*b1*4294967296:=by rw[←Int.mul_assoc]
 rw[e1,e2,e3]
 omega
theorem pA {a b A B:Int}(h0:0≤a)(h1:a≤A)(g0:0≤b)(g1:b≤B):0≤a*b∧a*b≤A*B:=
 ⟨Int.mul_nonneg h0 g0,Int.mul_le_mul h1 g1 g0 (by omega)⟩
theorem qUo (k:Nat){x y:Int}(hx:0≤x∧x<18446744073709551616)(hy:0≤y∧y<18446744073709551616):EX k x y=some (x*y/18446744073709551616,x*y%18446744073709551616):=by
 unfold EX
 simp only[yPo,O5 hx.1,O5 hy.1,mm]
 obtain⟨a1,h1⟩:∃a,x/4294967296=a:=⟨_,rfl⟩
 obtain⟨a0,h0⟩:∃a,x%4294967296=a:=⟨_,rfl⟩
 obtain⟨b1,g1⟩:∃a,y/4294967296=a:=⟨_,rfl⟩
 obtain⟨b0,g0⟩:∃a,y%4294967296=a:=⟨_,rfl⟩
 have hxe:x=a1*4294967296+a0:=by omega
 have hye:y=b1*4294967296+b0:=by omega
 rw[h1,h0,g1,g0]
 have IZ:0≤a1∧a1≤4294967295:=by omega
 have kf:0≤a0∧a0≤4294967295:=by omega
 have dA:0≤b1∧b1≤4294967295:=by omega
 have si:0≤b0∧b0≤4294967295:=by omega
 have p11:=pA IZ.1 IZ.2 dA.1 dA.2
 have o9:=pA IZ.1 IZ.2 si.1 si.2
 have p01:=pA kf.1 kf.2 dA.1 dA.2
 have p00:=pA kf.1 kf.2 si.1 si.2
 have Ix:x*y=a1*b1*18446744073709551616+(a1*b0+a0*b1)*4294967296+a0*b0:=by rw[hxe,hye,yRd]
 rw[Ix]
 generalize a1*b1=u at*
 generalize a1*b0=v at*
 generalize a0*b1=s at*
 generalize a0*b0=t at*
 have c1:(t%18446744073709551616)=t:=by omega
 have c2:(v%18446744073709551616+t/4294967296)%18446744073709551616=v+t/4294967296:=by omega
 rw[c1,c2]
 have EY:gO .u64 (v+t/4294967296) 4294967295=(v+t/4294967296)%4294967296:=O5 (by omega)
 rw[EY]
 refine congrArg some (Prod.ext ?_ ?_)
 ·show _%_=_/_
  omega
 ·rfl
theorem yPq (k:Nat){x:Int}(hx:0≤x∧x<18446744073709551616):I1 k 0 x 10000=some (x/10000,x%10000):=by
 unfold I1
 have e1:decide ((10000:Int)=0)=false:=rfl
 have e2:decide ((10000:Int)≤0)=false:=rfl
 simp only[e1,e2,decide_true,ao,an,dg,mm]
 rw[Int.tdiv_eq_ediv_of_nonneg hx.1,Int.tmod_eq_emod_of_nonneg hx.1]
 have:x/10000%18446744073709551616=x/10000:=by omega
 rw[this]
def AQ (price many cut:Int):Int:=price*many*(10000-cut)/10000
theorem yWw {p m c:Int}(hp:0≤p∧p≤1048576)(hm:0≤m∧m≤1099511627776)(hc:0≤c∧c≤10000):0≤AQ p m c∧AQ p m c≤1152921504606846976:=by
 have h1:=pA hp.1 hp.2 hm.1 hm.2
 have h2:=pA h1.1 h1.2 (show 0≤10000-c by omega) (show 10000-c≤10000 by omega)
 unfold AQ
 generalize p*m*(10000-c)=z at*
 omega
theorem yU4 (k:Nat){p m c:Int}(hp:0≤p∧p≤1048576)(hm:0≤m∧m≤1099511627776)(hc:0≤c∧c≤10000):I2 k p m c=some (AQ p m c,true):=by
 unfold I2 O6
 have w1:zA (10000-c)=10000-c:=qI (by omega) (by omega)
 have e1:decide (p<0)=false:=ak (by omega)
 have e2:decide (m<0)=false:=ak (by omega)
 have e3:decide (c≥0)=true:=ah (by omega)
 have e4:decide (c≤10000)=true:=ah (by omega)
 have u1:p%18446744073709551616=p:=by omega
 have u2:m%18446744073709551616=m:=by omega
 have u3:(10000-c)%18446744073709551616=10000-c:=by omega
 have h1:=pA hp.1 hp.2 hm.1 hm.2
 have hP:p*m/18446744073709551616=0:=by omega
 have hP2:p*m%18446744073709551616=p*m:=by omega
 have t0:Int.tmod 0 10000=0:=by simp
 have t1:Int.tdiv 0 10000=0:=by simp
 rw[e1,e2,e3,e4,ao,ao,an,aj,aW,ao,mm p,mm m,u1,u2,qUo k (show 0≤p∧p<18446744073709551616 by omega) (show 0≤m∧m<18446744073709551616 by omega),aj,hP,hP2]
 dsimp only
 rw[t0,t1,yPq k (show 0≤p*m∧p*m<18446744073709551616 by omega),aj]
 dsimp only
 rw[w1,mm (10000-c),u3]
 unfold AQ
 obtain⟨l,hl⟩:∃l,10000-c=l:=⟨_,rfl⟩
 rw[hl]
 obtain⟨P,hPe⟩:∃P,p*m=P:=⟨_,rfl⟩
 rw[hPe] at h1⊢
 have fe:0≤l∧l≤10000:=by omega
 rw[qUo k (show 0≤P/10000∧P/10000<18446744073709551616 by omega) (show 0≤l∧l<18446744073709551616 by omega)]
 have hq:=pA (show 0≤P/10000 by omega) (show P/10000≤115292150460684 by omega) fe.1 fe.2
 have hr:=pA (show 0≤P%10000 by omega) (show P%10000≤9999 by omega) fe.1 fe.2
 have uM:P*l=P/10000*l*10000+P%10000*l:=by
  have:P=P/10000*10000+P%10000:=by omega
  have e:P/10000*l*10000=P/10000*10000*l:=by rw[Int.mul_assoc,Int.mul_comm l,←Int.mul_assoc]
  rw[e,←Int.add_mul,←this]
 rw[uM]
 generalize P/10000*l=a at*
 generalize P%10000*l=b at*
 have v1:a/18446744073709551616=0:=by omega
 have v2:a%18446744073709551616=a:=by omega
 have v3:b%18446744073709551616=b:=by omega
 have v4:Int.tdiv b 10000=b/10000:=Int.tdiv_eq_ediv_of_nonneg hr.1
 have v5:b/10000%18446744073709551616=b/10000:=by omega
 have ha:yf k a (b/10000) 0=some (a+b/10000,0):=by
  have n1:(Int.ofNat ((a.toNat+(b/10000).toNat+0)%18446744073709551616))=a+b/10000:=by rw[Int.ofNat_eq_natCast];omega
  have n2:(Int.ofNat ((a.toNat+(b/10000).toNat+0)/18446744073709551616))=0:=by rw[Int.ofNat_eq_natCast];omega
  unfold yf
  rw[ah rfl,an,n1,n2]
 rw[aj]
 dsimp only
 rw[v1,v2,mm b,v3,v4,mm (b/10000),v5,ha,aj]
 dsimp only
 have z1:IntKind.wrap .u64 0=0:=by rw[mm];omega
 have z2:IntKind.wrap .u64 (0+0)=0:=by rw[mm];omega
 have z3:decide ((0:Int)>0)=false:=ak (by omega)
 have z4:decide (a+b/10000>9223372036854775807)=false:=ak (by omega)
 have z5:zA (a+b/10000)=a+b/10000:=qI (by omega) (by omega)
 rw[z1,z2,z3,z4,z5,ao,ao,ao]
 have:(a*10000+b)/10000=a+b/10000:=by omega
 rw[this]
abbrev gQ:=Int×Int
abbrev uN:gQ:=(0,0)
def mn (sa:List gQ)(pr h:AC)(i:Nat):Int:=AQ (pr.getD i 0) (h.getD i 0) (sa.getD i uN).2
def jm (sa:List gQ)(pr h:AC):Int:=qH (mn sa pr h) sa.length
structure jn (sa:List gQ) (pr h:AC):Prop where
 n3:sa.length≤3
 pl:pr.length=sa.length
 hl:h.length=sa.length
 cut:∀i,i<sa.length→0≤(sa.getD i uN).2∧(sa.getD i uN).2≤10000
 price:∀i,i<sa.length→0≤pr.getD i 0∧pr.getD i 0≤1048576
 hold:∀i,i<sa.length→0≤h.getD i 0∧h.getD i 0≤1099511627776
theorem O7 {sa:List gQ}{pr h:AC}(L:jn sa pr h){i:Nat}(hi:i<sa.length):0≤mn sa pr h i∧mn sa pr h i≤1152921504606846976:=yWw (L.price i hi) (L.hold i hi) (L.cut i hi)
theorem O8 (g:Nat→Int):∀n,fi ((List.range n).map g)=qH g n
 |0=>rfl
 |n+1=>by
  rw[List.range_succ,List.map_append]
  unfold fi
  rw[iE]
  have:=O8 g n
  unfold fi at this
  rw[this]
  show qH g n+(g n+0)=qH g n+g n
  omega
theorem O9 {g:Nat→Int}{A:Int}:∀{n:Nat},(∀j,j<n→0≤g j∧g j≤A)→0≤qH g n∧qH g n≤n*A
 |0,_=>by simp[qH]
 |n+1,h=>by
  have h1:=O9 (n:=n) (fun j hj=>h j (by omega))
  have h2:=h n (by omega)
  have h3:((n+1:Nat):Int)*A=n*A+A:=by rw[Int.natCast_add,Int.add_mul];simp
  rw[h3]
  show 0≤qH g n+g n∧qH g n+g n≤_
  omega
theorem yVz {k:Nat}{sa:List gQ}{pr h:AC}(L:jn sa pr h)(hk:10≤k):AR k k pr h sa sa.length 0 []=some (.inl ((List.range sa.length).map (mn sa pr h))):=by
 have hn:=L.n3
 obtain ⟨s', h1, h2⟩ := wE (L := fun n i (s : AC) => AR k n pr h sa sa.length i s) (N := sa.length) (fun s => .inl s) (fun i s => s = (List.range i).map (mn sa pr h)) (fun n s _=>by
  show AT k _ pr h sa sa.length sa.length s=_
  unfold AT
  simp only [qJ, ak (Nat.lt_irrefl _), ao]) (fun n i s hi hs=>by
  refine⟨s++[mn sa pr h i],?_,?_⟩
  ·show AT k _ pr h sa sa.length i s=_
   unfold AT
   have fH:s.length≤3:=by rw[hs,List.length_map,List.length_range];omega
   have hw:=yU4 k (L.price i hi) (L.hold i hi) (L.cut i hi)
   simp only[qJ,qG,aJ,ah hi,ah (show i<pr.length by rw[L.pl];exact hi),ah (show i<h.length by rw[L.hl];exact hi),an,qK hi (show sa.length<9223372036854775808 by omega)]
   rw[hw]
   simp only[aj,aW,ao,qU (show(s.length+1)*8≤140737488355328 by omega) (show s.length+1≤140737488355328 by omega),an]
   rfl
  ·rw[hs,List.range_succ,List.map_append];rfl) (s:=[]) (show sa.length<k by omega) rfl
 have fB:AR k k pr h sa sa.length 0 []=_:=h1
 rw[fB,h2]
theorem Pb {k:Nat}{sa:List gQ}{pr h:AC}(L:jn sa pr h)(hk:10≤k):nI k sa pr h=some (jm sa pr h,true):=by
 have hn:=L.n3
 have hb:=O9 (g:=mn sa pr h) (n:=sa.length) (fun j hj=>O7 L hj)
 have hm:(sa.length:Int)*1152921504606846976≤3*1152921504606846976:=Int.mul_le_mul_of_nonneg_right (by omega) (by decide)
 unfold nI
 have e1:decide ((pr.length:Int)=(sa.length:Int))=true:=ah (by rw[L.pl])
 have e2:decide ((h.length:Int)=(sa.length:Int))=true:=ah (by rw[L.hl])
 simp only[e1,e2,aW,ao]
 rw[yVz L hk]
 simp only[aj]
 rw [qTt (by rw [List.length_map, List.length_range]; omega) (by rw [List.length_map, List.length_range]; omega) (fun i hi=>by
  rw[List.length_map,List.length_range] at hi
  have:=O7 L hi
  have e:((List.range sa.length).map (mn sa pr h)).getD i 0=mn sa pr h i:=by
   rw[List.getD_eq_getElem?_getD,List.getElem?_map,List.getElem?_range hi];rfl
  rw[e];omega)]
 rw[O8]
 have e3:sf (qH (mn sa pr h) sa.length)=true:=by
  unfold sf
  rw[ah (by omega),ah (by omega)];rfl
 rw[e3]
 rfl
theorem I3 {sa:List gQ}{pr h:AC}(L:jn sa pr h):0≤jm sa pr h:=(O9 (g:=mn sa pr h) (n:=sa.length) (fun j hj=>O7 L hj)).1
theorem qSp {k:Nat}{l:AC}(hl:l.length≤1000){i:Int}(h0:0≤i)(h1:i<l.length)(v:Int):mo k l i v=some (l.set i.toNat v):=by
 unfold mo
 have e2:me k l=some l:=by
  unfold me
  rw[qU (by omega) (by omega)]
  rfl
 simp only[e2,aj,ah (show i≥0 by omega),ah h1,an,eI h0 h1]
theorem I4 {a b m p l r}(hb:wL a b m p)(h:nG a b m p l r):
  qH (fun i=>(r.1.getD i ad).1) a.length=qH (fun i=>(a.getD i ad).1) a.length∧wL r.1 r.2.1 r.2.2.1 r.2.2.2.1∧(r.2.2.2.2=0∨(r.1=a∧r.2.1=b∧r.2.2.1=m∧r.2.2.2.1=p)):=by
 by_cases c:wB a.length l
 ·obtain⟨a',p',x,e⟩:=h.1 c
  cases hi:jk a' b m p' with
  |false=>
   simp_all
  |true=>
   rw[hi] at e
   subst e
   refine⟨?_,Ij.1 hi,.inl rfl⟩
   have e1:qH (fun i=>(a'.getD i ad).1) a.length=qH (fun i=>(a.getD i ad).1+zL (gB i) l) a.length:=nC fun j hj=>by rw[x.acct j hj]
   show qH (fun i=>(a'.getD i ad).1) a.length=_
   rw[e1,yi,HU]
   have e2:zL (fun p=>qH (fun j=>gB j p) a.length) l=zL (fun _=>(0:Int)) l:=HT fun p hp=>by
    obtain⟨f0,f1,t0,t1,ne,a1,a2,c1,c3⟩:=c.1 p hp
    obtain⟨f,hf⟩:∃f:Nat,p.2.1=f:=⟨p.2.1.toNat,by omega⟩
    obtain⟨t,ht⟩:∃t:Nat,p.2.2.1=t:=⟨p.2.2.1.toNat,by omega⟩
    have g1:∀j,gB j p=(if j=t then p.2.2.2.1 else 0)+(if j=f then-p.2.2.2.1 else 0):=by
     unfold gB
     omega
    rw[nC fun j _=>g1 j,yi,ur,ur,if_pos (by omega),if_pos (by omega)]
    omega
   have e3:∀l:List zC,zL (fun _:zC=>(0:Int)) l=0:=by
    intro l
    induction l with
    |nil=>rfl
    |cons p l ih=>show 0+zL _ l=0;omega
   simp_all
 ·have e:=h.2 c
  simp_all
abbrev BT:=List qS×EQ×AC×EQ
def qV (B:BT):Prop:=wL B.1 B.2.1 B.2.2.1 B.2.2.2
theorem I5 {k}(hk:100<k){B}(h:qV B){l:List zC}(hl:l.length≤80):
  ∃r,mg k B.1 B.2.1 B.2.2.1 B.2.2.2 l=some r∧Oy k B.1 B.2.1 B.2.2.1 B.2.2.2 l=some r∧nG B.1 B.2.1 B.2.2.1 B.2.2.2 l r:=by
 obtain⟨r,h1,h2⟩:=Iz hk h hl
 obtain⟨r',h3,h4⟩:=yUm hk h hl
 have:=h2.same h4
 simp_all
def uO (B:BT)(l:List zC):Bool:=zo B.1 B.2.1 B.2.2.1 B.2.2.2 l
def gv (k:Nat)(B:BT)(l:List zC):Option BT:=match mg k B.1 B.2.1 B.2.2.1 B.2.2.2 l with
 |some r=>bif decide (r.2.2.2.2=0)&&uO B l then some (r.1,r.2.1,r.2.2.1,r.2.2.2.1) else none
 |none=>none
theorem sj {k}(hk:100<k){B C}(h:qV B){l}(hl:l.length≤80)(hg:gv k B l=some C):qV C∧C.1.length=B.1.length:=by
 obtain⟨r,h1,h2,h3⟩:=I5 hk h hl
 unfold gv at hg
 rw[h1] at hg
 simp only at hg
 cases hc:decide (r.2.2.2.2=0)&&uO B l with
 |false=>
  simp_all
 |true=>
  rw[hc] at hg
  simp  at hg
  subst hg
  refine⟨(I4 h h3).2.1,?_⟩
  by_cases c:wB B.1.length l
  ·obtain⟨a',p',x,e⟩:=h3.1 c
   cases hi:jk a' B.2.1 B.2.2.1 p' with
   |false=>simp_all
   |true=>rw[hi] at e;subst e;exact x.al
  ·rw[h3.2 c]
def jU (k:Nat)(B:BT):List zC→Option (zC×BT)
 |[]=>none
 |p::l=>match gv k B [p] with
  |some C=>some (p,C)
  |none=>jU k B l
theorem AU {k B C p}:∀{l},jU k B l=some (p,C)→p∈l∧gv k B [p]=some C
 |q::l,h=>by
  unfold jU at h
  cases hg:gv k B [q] with
  |some D=>
   simp_all
  |none=>
   rw[hg] at h
   have:=AU h
   simp_all
theorem yP3 k B {m:List zC}{i}(hi:i<m.length):jU k B (m.drop i)=match gv k B [m.getD i pd] with
  |some C=>some (m.getD i pd,C)
  |none=>jU k B (m.drop (i+1)):=by
 rw[List.drop_eq_getElem_cons hi]
 have e:m.getD i pd=m[i]:=by simp_all
 rw[e]
 rfl
theorem qUk l t:(wK l t).length≤l.length:=Nat.le_trans (List.length_filter_le _ _) (by grind)
def jL (l:List zC)(id:Int):List zC:=(mi l id).1
theorem uP {l p}(h:p∈l):(jL l p.1).length+1=l.length∧List.Sublist (jL l p.1) l:=by
 obtain⟨x,hx⟩:=IM h
 unfold jL mi
 rw[hx]
 have:=(lg hx).1
 refine⟨?_,pw l x⟩
 rw[nH this]
 omega
theorem EZ {l t p}(h:p∈wK l t):p∈l:=(List.mem_filter.1 (List.mem_filter.1 h).1).1
inductive fj (k:Nat) (t:Int):BT→List zC→List zC→BT→List zC→Prop
 |stop {B:BT} {l:List zC} (h:jU k B (wK l t)=none):fj k t B l [] B l
 |step {B C D:BT} {l m done:List zC} {p:zC} (h:jU k B (wK l t)=some (p,C)) (h':fj k t C (jL l p.1) done D m):fj k t B l (p::done) D m
theorem yKy {k}(hk:100<k){B}(h:qV B){l:List zC}(hl:l.length≤80):uJ k B.1 B.2.1 B.2.2.1 B.2.2.2 l=some (uO B l):=vB1 hk h hl
theorem yAu {k}(hk:100<k){B}(h:qV B)(m:List zC)(hm:m.length≤1000):∀c i n,i+c=m.length→c<n→
  E0 k n m.length i B.1 B.2.1 B.2.2.1 B.2.2.2 0 0 0 0 0 0 0 m = some (match jU k B (m.drop i) with
   |some (p,C)=>.inr (true,p.1,p.2.1,p.2.2.1,p.2.2.2.1,p.2.2.2.2.1,p.2.2.2.2.2.1,p.2.2.2.2.2.2,C.1,C.2.1,C.2.2.1,C.2.2.2)
   |none=>.inl (B.1,B.2.1,B.2.2.1,B.2.2.2,0,0,0,0,0,0,0))
 |0,i,n,e,hn=>by
  obtain⟨n,rfl⟩:∃x,n=x+1:=⟨n-1,by omega⟩
  have:i=m.length:=by omega
  subst this
  show AV k _ m.length m.length B.1 B.2.1 B.2.2.1 B.2.2.2 0 0 0 0 0 0 0 m=_
  unfold AV
  simp
  rfl
 |c+1,i,n,e,hn=>by
  obtain⟨n,rfl⟩:∃x,n=x+1:=⟨n-1,by omega⟩
  have hi:i<m.length:=by omega
  have ih:=yAu hk h m hm c (i+1) n (by omega) (by omega)
  show AV k _ m.length i B.1 B.2.1 B.2.2.1 B.2.2.2 0 0 0 0 0 0 0 m=_
  unfold AV
  obtain⟨r,h1,h2,h3⟩:=I5 hk h (l:=[m.getD i pd]) (by simp)
  have hf:=yKy hk h (l:=[m.getD i pd]) (by simp)
  simp[qG,qK hi (by grind)]
  rw[yP3 k B hi]
  unfold gv
  grind
def qWt (B:BT)(x:Option (zC×BT)):Int×Int×Int×Int×Int×Int×Int×(List (Int×Int×Int))×EQ×AC×EQ×Bool:=match x with
 |some (p,C)=>(p.1,p.2.1,p.2.2.1,p.2.2.2.1,p.2.2.2.2.1,p.2.2.2.2.2.1,p.2.2.2.2.2.2,C.1,C.2.1,C.2.2.1,C.2.2.2,true)
 |none=>(0,0,0,0,0,0,0,B.1,B.2.1,B.2.2.1,B.2.2.2,false)
theorem vAq {k}(hk:100<k){B}(h:qV B){l}(cn:l.length<k)(hl:yU l)(hd:qO l) t:I6 k B.1 B.2.1 B.2.2.1 B.2.2.2 l t=some (qWt B (jU k B (wK l t))):=by
 unfold I6
 rw[Z2 cn hl hd]
 have I7:=qUk l t
 unfold yU at hl
 have:=yAu hk h (wK l t) (by omega) (wK l t).length 0 k (by omega) (by omega)
 have e:((0:Nat):Int)=0:=rfl
 rw[e,List.drop_zero] at this
 simp
 rw[this]
 cases jU k B (wK l t) with
 |none=>rfl
 |some x=>rfl
theorem qUb {k}(hk:100<k) t:∀n B (l r:List zC),qV B→qO l→l.length≤100→l.length<n→r.length+l.length≤1000→
  ∃(C:BT) (m done:List zC),E1 k n t l B.1 B.2.1 B.2.2.1 B.2.2.2 r=some (m,C.1,C.2.1,C.2.2.1,C.2.2.2,r++done)∧fj k t B l done C m∧qV C∧C.1.length=B.1.length∧List.Sublist m l
 |n+1,B,l,r,hb,hd,hl,hn,hr=>by
  have h1:=vAq hk hb (l:=l) (by omega) (by show l.length≤1000;omega) hd t
  cases hx:jU k B (wK l t) with
  |none=>
   rw[hx] at h1
   refine⟨B,l,[],?_,.stop hx,hb,rfl,by simp⟩
   show AW k _ t l B.1 B.2.1 B.2.2.1 B.2.2.2 r=_
   unfold AW
   rw[h1]
   simp only[aj,qWt,dg,an,List.append_nil]
  |some x=>
   obtain⟨p,C⟩:=x
   rw[hx] at h1
   obtain⟨hp,hg⟩:=AU hx
   have G6:=EZ hp
   obtain⟨xw,mQ⟩:=uP G6
   obtain⟨uk,ca⟩:=sj hk hb (by simp) hg
   obtain⟨D,m,done,g1,g3,g4,g5,g6⟩:=qUb hk t n C (jL l p.1) (r++[p]) uk (List.Pairwise.sublist mQ hd) (by omega) (by omega) (by grind)
   refine⟨D,m,p::done,?_,.step hx g3,g4,by grind,g6.trans mQ⟩
   show AW k _ t l B.1 B.2.1 B.2.2.1 B.2.2.2 r=_
   unfold AW
   rw[h1]
   simp[uL (show l.length<k by omega) (show yU l by show l.length≤1000;omega),rY (show r.length≤1000 by omega)]
   rw[List.append_cons r p done,←g1]
   rfl
theorem yUi {k}(hk:200≤k){B}(hb:qV B){l}(hd:qO l)(hl:l.length≤100) t:
  ∃(C:BT) (m done:List zC),I8 k B.1 B.2.1 B.2.2.1 B.2.2.2 l t=some (C.1,C.2.1,C.2.2.1,C.2.2.2,m,done)∧fj k t B l done C m∧qV C∧C.1.length=B.1.length∧List.Sublist m l:=by
 obtain⟨C,m,done,h1,h3⟩:=qUb (show 100<k by omega) t k B l [] hb hd hl (by omega) (by grind)
 refine⟨C,m,done,?_,h3⟩
 unfold I8
 simp_all
def nJ (p q:zC):Bool:=decide (q.2.1=p.2.2.1)&&(decide (q.2.2.1=p.2.1)&& !decide (p.2.1≥q.2.1))
def nK (k:Nat)(B:BT)(p:zC):List zC→Option (zC×BT)
 |[]=>none
 |q::l=>match(bif nJ p q then gv k B [p,q] else none) with
  |some C=>some (q,C)
  |none=>nK k B p l
def sk (k:Nat)(B:BT)(m:List zC):List zC→Option (zC×zC×BT)
 |[]=>none
 |p::l=>match nK k B p m with
  |some (q,C)=>some (p,q,C)
  |none=>sk k B m l
theorem Pc {k B C p q}:∀{l},nK k B p l=some (q,C)→q∈l∧nJ p q=true∧gv k B [p,q]=some C
 |r::l,h=>by
  unfold nK at h
  cases hd:nJ p r with
  |false=>
   rw[hd] at h
   have:=Pc (l:=l) h
   simp_all
  |true=>
   rw[hd] at h
   cases hg:gv k B [p,r] with
   |some D=>
    simp_all
   |none=>
    rw[hg] at h
    have:=Pc (l:=l) h
    simp_all
theorem I9 {k B C p q m}:∀{l},sk k B m l=some (p,q,C)→p∈l∧q∈m∧nJ p q=true∧gv k B [p,q]=some C
 |r::l,h=>by
  unfold sk at h
  cases hq:nK k B r m with
  |some x=>
   rw[hq] at h
   cases h
   exact⟨by simp,Pc hq⟩
  |none=>
   rw[hq] at h
   have:=I9 (l:=l) h
   simp_all
theorem yJc {α:Type}{l:List α}{i} h d:l.getD i d=l[i]:=by
 simp_all
theorem ySv k B p {m:List zC}{i}(hi:i<m.length):nK k B p (m.drop i)=match(bif nJ p (m.getD i pd) then gv k B [p,m.getD i pd] else none) with
  |some C=>some (m.getD i pd,C)
  |none=>nK k B p (m.drop (i+1)):=by
 rw[List.drop_eq_getElem_cons hi,yJc hi]
 rfl
theorem vDb k B r {m:List zC}{i}(hi:i<m.length):sk k B r (m.drop i)=match nK k B (m.getD i pd) r with
  |some (q,C)=>some (m.getD i pd,q,C)
  |none=>sk k B r (m.drop (i+1)):=by
 rw[List.drop_eq_getElem_cons hi,yJc hi]
 rfl
def ek (k:Nat)(B:BT)(l:List zC)(t:Int):Option (zC×zC×BT):=sk k B (wK l t) (wK l t)
theorem yUg {l x q}(hx:x<l.length)(h:q∈l)(aV:q≠l.getD x pd):q∈vL l x:=by
 unfold vL
 have e:=EL l x pd hx
 grind
theorem qO.eq_of {l}(h:qO l){p q}(hp:p∈l)(hq:q∈l)(e:p.1=q.1):p=q:=by
 obtain⟨i,hi,ei⟩:=List.getElem_of_mem hp
 obtain⟨j,hj,ej⟩:=List.getElem_of_mem hq
 have hl:=List.pairwise_iff_getElem.1 h
 grind
theorem Pd {l p q}(hp:p∈l)(hq:q∈l)(aV:q.1≠p.1):q∈jL l p.1:=by
 obtain⟨x,hx⟩:=IM hp
 unfold jL mi
 rw[hx]
 have:=lg hx
 exact yUg this.1 hq (by grind)
def uQ (l:List zC)(p q:zC):List zC:=jL (jL l p.1) q.1
theorem E2 {k B C l t p q}(h:ek k B l t=some (p,q,C)):p∈l∧q∈l∧nJ p q=true∧gv k B [p,q]=some C:=by
 obtain⟨h1,h2,h3⟩:=I9 h
 exact⟨EZ h1,EZ h2,h3⟩
theorem qXf {l}(hd:qO l){p q}(hp:p∈l)(hq:q∈l)(h:nJ p q=true):q.1≠p.1:=by
 intro e
 have:=hd.eq_of hq hp e
 subst this
 unfold nJ at h
 simp at h
theorem E3 {l}(hd:qO l){p q}(hp:p∈l)(hq:q∈l)(h:nJ p q=true):(uQ l p q).length+2=l.length∧List.Sublist (uQ l p q) l:=by
 obtain⟨h1,h2⟩:=uP hp
 obtain⟨h3,h4⟩:=uP (Pd hp hq (qXf hd hp hq h))
 unfold uQ
 exact⟨by omega,h4.trans h2⟩
inductive jP (k:Nat) (t:Int):BT→List zC→List zC→BT→List zC→Prop
 |stop {B:BT} {l:List zC} (h:ek k B l t=none):jP k t B l [] B l
 |step {B C D:BT} {l m done:List zC} {p q:zC} (h:ek k B l t=some (p,q,C)) (h':jP k t C (uQ l p q) done D m):jP k t B l (p::q::done) D m
theorem jP.length {k t B C l done m}(h:jP k t B l done C m)(hd:qO l):done.length+m.length=l.length∧done.length%2=0:=by
 induction h with
 |stop _=>simp
 |step h _ ih=>
  obtain⟨hp,hq,nL,_⟩:=E2 h
  obtain⟨h1,h2⟩:=E3 hd hp hq nL
  have:=ih (List.Pairwise.sublist h2 hd)
  grind
theorem jP.sub {k t B C l done m}(h:jP k t B l done C m)(hd:qO l):List.Sublist m l:=by
 induction h with
 |stop _=>simp
 |step h _ ih=>
  obtain⟨hp,hq,nL,_⟩:=E2 h
  obtain⟨h1,h2⟩:=E3 hd hp hq nL
  exact(ih (List.Pairwise.sublist h2 hd)).trans h2
theorem qRl {k}(hk:100<k){B}(h:qV B)(m:List zC)(hm:m.length≤1000) p cE bV:∀c i n,i+c=m.length→c<n→
  E4 k n cE bV m.length i B.1 B.2.1 B.2.2.1 B.2.2.2 0 0 0 0 0 0 0 0 0 0 0 0 0 0 m p.1 p.2.1 p.2.2.1 p.2.2.2.1 p.2.2.2.2.1 p.2.2.2.2.2.1 p.2.2.2.2.2.2 = some (match nK k B p (m.drop i) with
   |some (q,C)=>.inr (true,p.1,p.2.1,p.2.2.1,p.2.2.2.1,p.2.2.2.2.1,p.2.2.2.2.2.1,p.2.2.2.2.2.2,q.1,q.2.1,q.2.2.1,q.2.2.2.1,q.2.2.2.2.1,q.2.2.2.2.2.1,q.2.2.2.2.2.2,C.1,C.2.1,C.2.2.1,C.2.2.2)
   |none=>.inl (cE,bV,B.1,B.2.1,B.2.2.1,B.2.2.2,0,0,0,0,0,0,0,0,0,0,0,0,0,0,m))
 |0,i,n,e,hn=>by
  obtain⟨n,rfl⟩:∃x,n=x+1:=⟨n-1,by omega⟩
  have:i=m.length:=by omega
  subst this
  show AY k _ cE bV m.length m.length B.1 B.2.1 B.2.2.1 B.2.2.2 0 0 0 0 0 0 0 0 0 0 0 0 0 0 m p.1 p.2.1 p.2.2.1 p.2.2.2.1 p.2.2.2.2.1 p.2.2.2.2.2.1 p.2.2.2.2.2.2=_
  unfold AY
  simp
  rfl
 |c+1,i,n,e,hn=>by
  obtain⟨n,rfl⟩:∃x,n=x+1:=⟨n-1,by omega⟩
  have hi:i<m.length:=by omega
  have ih:=qRl hk h m hm p cE bV c (i+1) n (by omega) (by omega)
  show AY k _ cE bV m.length i B.1 B.2.1 B.2.2.1 B.2.2.2 0 0 0 0 0 0 0 0 0 0 0 0 0 0 m p.1 p.2.1 p.2.2.1 p.2.2.2.1 p.2.2.2.2.1 p.2.2.2.2.2.1 p.2.2.2.2.2.2=_
  unfold AY
  obtain⟨r,h1,h2,h3⟩:=I5 hk h (l:=[p,m.getD i pd]) (by simp)
  have hf:=yKy hk h (l:=[p,m.getD i pd]) (by simp)
  have fB:mg k B.1 B.2.1 B.2.2.1 B.2.2.2 [(p.1,p.2.1,p.2.2.1,p.2.2.2.1,p.2.2.2.2.1,p.2.2.2.2.2.1,p.2.2.2.2.2.2),m.getD i (0,(0,(0,(0,(0,(0,0))))))]=some r:=h1
  have cT:uJ k B.1 B.2.1 B.2.2.1 B.2.2.2 [(p.1,p.2.1,p.2.2.1,p.2.2.2.1,p.2.2.2.2.1,p.2.2.2.2.2.1,p.2.2.2.2.2.2),m.getD i (0,(0,(0,(0,(0,(0,0))))))]=some (uO B [p,m.getD i pd]):=hf
  simp only[qG,qK hi (by grind),qJ,aJ,ah hi]
  rw[ySv k B p hi]
  unfold nJ
  cases decide ((m.getD i pd).2.1=p.2.2.1) with
  |false=>exact ih
  |true=>
   cases decide ((m.getD i pd).2.2.1=p.2.1) with
   |false=>exact ih
   |true=>
    cases decide (p.2.1≥(m.getD i pd).2.1) with
    |true=>exact ih
    |false=>
     unfold gv
     grind
theorem yGz {k}(hk:100<k){B}(h:qV B)(m:List zC)(hm:m.length≤1000)(hmk:m.length<k):∀c i n,i+c=m.length→c<n→
  E5 k n m.length i B.1 B.2.1 B.2.2.1 B.2.2.2 0 0 0 0 0 0 0 0 0 0 0 0 0 0 m = some (match sk k B m (m.drop i) with
   |some (p,q,C)=>.inr (true,p.1,p.2.1,p.2.2.1,p.2.2.2.1,p.2.2.2.2.1,p.2.2.2.2.2.1,p.2.2.2.2.2.2,q.1,q.2.1,q.2.2.1,q.2.2.2.1,q.2.2.2.2.1,q.2.2.2.2.2.1,q.2.2.2.2.2.2,C.1,C.2.1,C.2.2.1,C.2.2.2)
   |none=>.inl (0,0,0,0,0,0,0,0,0,0,0,0,0,0))
 |0,i,n,e,hn=>by
  obtain⟨n,rfl⟩:∃x,n=x+1:=⟨n-1,by omega⟩
  have:i=m.length:=by omega
  subst this
  show AZ k _ m.length m.length B.1 B.2.1 B.2.2.1 B.2.2.2 0 0 0 0 0 0 0 0 0 0 0 0 0 0 m=_
  unfold AZ
  simp
  rfl
 |c+1,i,n,e,hn=>by
  obtain⟨n,rfl⟩:∃x,n=x+1:=⟨n-1,by omega⟩
  have hi:i<m.length:=by omega
  have ih:=yGz hk h m hm hmk c (i+1) n (by omega) (by omega)
  show AZ k _ m.length i B.1 B.2.1 B.2.2.1 B.2.2.2 0 0 0 0 0 0 0 0 0 0 0 0 0 0 m=_
  unfold AZ
  have eE:=qRl hk h m hm (m.getD i pd) m.length i m.length 0 k (by omega) hmk
  have e0:((0:Nat):Int)=0:=rfl
  rw[e0,List.drop_zero] at eE
  simp only[qG,qJ,aJ,ah hi]
  rw[eE]
  rw[vDb k B m hi]
  cases nK k B (m.getD i (0,(0,(0,(0,(0,(0,0))))))) m with
  |none=>
   simp[qK hi (by grind)]
   exact ih
  |some x=>rfl
def Pe (x:Option (zC×zC×BT)):Int×Int×Int×Int×Int×Int×Int×Int×Int×Int×Int×Int×Int×Int×(List (Int×Int×Int))×EQ×AC×EQ×Bool:=match x with
 |some (p,q,C)=>(p.1,p.2.1,p.2.2.1,p.2.2.2.1,p.2.2.2.2.1,p.2.2.2.2.2.1,p.2.2.2.2.2.2,q.1,q.2.1,q.2.2.1,q.2.2.2.1,q.2.2.2.2.1,q.2.2.2.2.2.1,q.2.2.2.2.2.2,C.1,C.2.1,C.2.2.1,C.2.2.2,true)
 |none=>(0,0,0,0,0,0,0,0,0,0,0,0,0,0,[],[],[],[],false)
theorem vBx {k}(hk:100<k){B}(h:qV B){l}(cn:l.length<k)(hl:yU l)(hd:qO l) t:Ja k B.1 B.2.1 B.2.2.1 B.2.2.2 l t=some (Pe (ek k B l t)):=by
 unfold Ja ek
 rw[Z2 cn hl hd]
 have I7:=qUk l t
 unfold yU at hl
 have:=yGz hk h (wK l t) (by omega) (by omega) (wK l t).length 0 k (by omega) (by omega)
 have e:((0:Nat):Int)=0:=rfl
 rw[e,List.drop_zero] at this
 simp
 rw[this]
 cases sk k B (wK l t) (wK l t) with
 |none=>rfl
 |some x=>rfl
theorem ySk {k}(hk:3≤k) t (l:List zC)(hl:l.length≤1000)(o6:l.length<k)(C:BT)(r:List zC)(hr:r.length≤900)(p q:zC):
  sm k k t l 2 0 C.1 C.2.1 C.2.2.1 C.2.2.2 r [p,q]=some (t,uQ l p q,C.1,C.2.1,C.2.2.1,C.2.2.2,r++[p,q]):=by
 obtain⟨n,rfl⟩:∃n,k=n+3:=⟨k-3,by omega⟩
 have h1:=uL o6 (show yU l from hl) p.1
 have xw:(jL l p.1).length≤l.length:=by
  unfold jL mi
  cases hp:wO l p.1 with
  |none=>simp
  |some x=>exact List.Sublist.length_le (pw l x)
 have h2:=uL (k:=n+3) (l:=jL l p.1) (by omega) (show(jL l p.1).length≤1000 by omega) q.1
 have e1:zY (r.length+1) 56=true:=rY (by omega)
 have e2:zY ((r++[p]).length+1) 56=true:=rY (by grind)
 show sn (n+3) (sm (n+3) (n+2)) t l 2 0 C.1 C.2.1 C.2.2.1 C.2.2.2 r [p,q]=_
 unfold sn
 have g0:[p,q].getD (Int.toNat 0) (0,(0,(0,(0,(0,(0,0))))))=p:=rfl
 have b0:zD 0 [p,q].length=true:=rfl
 have d0:decide ((0:Int)<2)=true:=rfl
 have w0:zA (0+1)=1:=by decide
 rw[d0,b0,g0,h1]
 simp[e1]
 show sn (n+3) (sm (n+3) (n+1)) t (jL l p.1) 2 1 C.1 C.2.1 C.2.2.1 C.2.2.2 (r++[p]) [p,q]=_
 unfold sn
 have g1:[p,q].getD (Int.toNat 1) (0,(0,(0,(0,(0,(0,0))))))=q:=rfl
 have b1:zD 1 [p,q].length=true:=rfl
 have d1:decide ((1:Int)<2)=true:=rfl
 have w1:zA (1+1)=2:=by decide
 rw[d1,b1,g1,h2]
 simp only[e2]
 show sn (n+3) (sm (n+3) n) t (uQ l p q) 2 2 C.1 C.2.1 C.2.2.1 C.2.2.2 (r++[p]++[q]) [p,q]=_
 unfold sn
 simp
theorem qQh {k}(hk:100<k) t:∀n B (l r:List zC),qV B→qO l→l.length≤100→l.length<n→r.length+l.length≤900→
  ∃(C:BT) (m done:List zC),E6 k n t l B.1 B.2.1 B.2.2.1 B.2.2.2 r=some (m,C.1,C.2.1,C.2.2.1,C.2.2.2,r++done)∧jP k t B l done C m∧qV C∧C.1.length=B.1.length∧List.Sublist m l
 |n+1,B,l,r,hb,hd,hl,hn,hr=>by
  have h1:=vBx hk hb (l:=l) (by omega) (by show l.length≤1000;omega) hd t
  cases hx:ek k B l t with
  |none=>
   rw[hx] at h1
   refine⟨B,l,[],?_,.stop hx,hb,rfl,by simp⟩
   show A0 k _ t l B.1 B.2.1 B.2.2.1 B.2.2.2 r=_
   unfold A0
   rw[h1]
   simp only[aj,Pe,dg,an,List.append_nil]
  |some x=>
   obtain⟨p,q,C⟩:=x
   obtain⟨hp,hq,nL,hg⟩:=E2 hx
   obtain⟨xw,mQ⟩:=E3 hd hp hq nL
   obtain⟨uk,ca⟩:=sj hk hb (by simp) hg
   obtain⟨D,m,done,g1,g3,g4,g5,g6⟩:=qQh hk t n C (uQ l p q) (r++[p,q]) uk (List.Pairwise.sublist mQ hd) (by omega) (by omega) (by grind)
   refine⟨D,m,p::q::done,?_,.step hx g3,g4,by grind,g6.trans mQ⟩
   show A0 k _ t l B.1 B.2.1 B.2.2.1 B.2.2.2 r=_
   unfold A0
   rw[h1]
   have hL:=ySk (k:=k) (by omega) t l (by omega) (by omega) C r (by omega) p q
   simp only[Pe,ao]
   simp_all
theorem yZ3 {k}(hk:200≤k){B}(hb:qV B){l}(hd:qO l)(hl:l.length≤100) t:
  ∃(C:BT) (m done:List zC),Jb k B.1 B.2.1 B.2.2.1 B.2.2.2 l t=some (C.1,C.2.1,C.2.2.1,C.2.2.2,m,done)∧jP k t B l done C m∧qV C∧C.1.length=B.1.length∧List.Sublist m l:=by
 obtain⟨C,m,done,h1,h3⟩:=qQh (show 100<k by omega) t k B l [] hb hd hl (by omega) (by grind)
 refine⟨C,m,done,?_,h3⟩
 unfold Jb
 simp_all
def jC (l:List zC)(f:Int):Nat:=(l.filter (jF f)).length
def so (l:List zC)(many:AC)(i:Nat):Bool:=
 (decide ((l.getD i pd).2.1≥0)&&decide ((l.getD i pd).2.1<(many.length:Int)))&&decide (((jC (l.take i) (l.getD i pd).2.1:Nat):Int)<many.getD (l.getD i pd).2.1.toNat 0)
def ll (l:List zC)(many:AC):Nat→List zC
 |0=>[]
 |i+1=>ll l many i++(bif so l many i then[l.getD i pd] else[])
def vY (l:List zC)(many:AC):List zC:=ll l many l.length
theorem yEg l many:∀N,N≤l.length→List.Sublist (ll l many N) (l.take N)
 |0,_=>by simp[ll]
 |N+1,h=>by
  rw[←dE l N pd h]
  apply List.Sublist.append (yEg l many N (by omega))
  grind
theorem A2 l many:List.Sublist (vY l many) l:=by
 have:=yEg l many l.length (by simp)
 rwa [List.take_length] at this
def pB (v w:AC):Prop:=v.length=w.length∧∀i,i<w.length→v.getD i 0≤w.getD i 0
def eM (B:BT)(l:List zC):AC:=uE B.1 B.2.1 B.2.2.1 B.2.2.2 l
def jS (s:AC)(m:AC):AC:=s.foldl (fun m i=>m.set i.toNat (m.getD i.toNat 0-1)) m
theorem uR:∀s m,(jS s m).length=m.length
 |[],_=>rfl
 |i::s,m=>by
  show(jS s (m.set i.toNat (m.getD i.toNat 0-1))).length=_
  rw[uR s,List.length_set]
theorem yCy:∀(s:List Nat) m,s.Nodup→(∀i∈s,i<m.length)→∀j,(jS (s.map fun(x:Nat)=>(x:Int)) m).getD j 0=m.getD j 0-(if j∈s then 1 else 0)
 |[],m,_,_,j=>by simp[jS]
 |i::s,m,hs,hi,j=>by
  show(jS (s.map fun(x:Nat)=>(x:Int)) (m.set ((i:Int)).toNat (m.getD ((i:Int)).toNat 0-1))).getD j 0=_
  rw[aJ,yCy s _ (by grind) (by grind),jQ]
  grind
def pC (B:BT)(l:List zC)(i:Nat):Bool:=jl B.1 B.2.1 B.2.2.1 B.2.2.2 l i
theorem qYz B l {m}(hm:m.length=B.1.length) j:(jS (eM B l) m).getD j 0=m.getD j 0-(if j<B.1.length∧pC B l j=true then 1 else 0):=by
 have:=yCy ((List.range B.1.length).filter fun i=>pC B l i) m (List.Nodup.sublist List.filter_sublist (by grind)) (by grind) j
 unfold eM uE
 rw[show(fun i=>jl B.1 B.2.1 B.2.2.1 B.2.2.2 l i)=fun i=>pC B l i from rfl,this]
 simp
theorem yYu {B l}:eM B l=[]↔∀j,j<B.1.length→pC B l j=false:=by
 unfold eM uE
 rw[List.map_eq_nil_iff,List.filter_eq_nil_iff]
 constructor
 ·intro h j hj
  have:=h j (by grind)
  simpa[pC] using this
 ·intro h i hi
  have:=h i (by grind)
  simpa[pC] using this
theorem qWo {l many p}:∀{N},p∈ll l many N→∃i,i<N∧l.getD i pd=p∧so l many i=true
 |N+1,h=>by
  unfold ll at h
  rw[List.mem_append] at h
  rcases h with h|h
  ·obtain⟨i,h1,h2⟩:=qWo h
   grind
  grind
theorem yYc {B l}(hl:∀q∈l,yM B.1.length q){m j}(h:pC B (vY l m) j=true):1≤m.getD j 0:=by
 unfold pC jl at h
 rw[bO,Bool.not_eq_true'] at h
 have hn:=ZZ (n:=B.1.length) (l:=vY l m) (fun q hq=>hl q ((A2 l m).subset hq)) j
 rw[h.1] at hn
 obtain⟨x,hx,he⟩:=II.1 hn
 obtain⟨i,h1,h2,h3⟩:=qWo (jY (d:=pd) hx)
 unfold so at h3
 have h2':(l.getD i pd)=(vY l m).getD x pd:=h2
 grind
inductive jo (B:BT) (l:List zC):AC→AC→Nat→Prop
 |stop {m:AC} (h:eM B (vY l m)=[]):jo B l m m 0
 |step {m f:AC} {n:Nat} (h:eM B (vY l m)≠[]) (h':jo B l (jS (eM B (vY l m)) m) f n):jo B l m f (n+1)
theorem yTw {B l m}(hm:m.length=B.1.length):pB (jS (eM B l) m) m:=by
 refine⟨uR _ _,fun i hi=>?_⟩
 rw[qYz B l hm]
 omega
theorem pB.trans {u v w}(h:pB u v)(h':pB v w):pB u w:=⟨h.1.trans h'.1,fun i hi=>Int.le_trans (h.2 i (by have:=h'.1;omega)) (h'.2 i hi)⟩
theorem pB.refl v:pB v v:=⟨rfl,by simp⟩
theorem jo.le {B l m f n}(h:jo B l m f n)(hm:m.length=B.1.length):pB f m:=by
 induction h with
 |stop _=>exact pB.refl _
 |step _ _ ih=>exact(ih ((uR _ _).trans hm)).trans (yTw hm)
theorem jo.final {B l m f n}(h:jo B l m f n):eM B (vY l f)=[]:=by
 induction h with
 |stop h=>exact h
 |step _ _ ih=>exact ih
def nM (m:AC):Prop:=∀i,0≤m.getD i 0
theorem Pf {B l}(hl:∀q∈l,yM B.1.length q){m}(hm:m.length=B.1.length)(h0:nM m):nM (jS (eM B (vY l m)) m):=by
 intro i
 rw[qYz B _ hm]
 have:=h0 i
 split
 ·rename_i c
  have:=yYc hl c.2
  omega
 ·omega
theorem jo.nonneg {B l}(hl:∀q∈l,yM B.1.length q){m f n}(h:jo B l m f n)(hm:m.length=B.1.length)(h0:nM m):nM f:=by
 induction h with
 |stop _=>exact h0
 |step _ _ ih=>exact ih ((uR _ _).trans hm) (Pf hl hm h0)
def jq (m:AC):Int:=zL (fun x=>x) m
theorem yKs:∀m i x,i<m.length→jq (m.set i x)=jq m-m.getD i 0+x
 |y::m,0,x,_=>by
  show x+jq m=y+jq m-y+x
  omega
 |y::m,i+1,x,h=>by
  show y+jq (m.set i x)=y+jq m-m.getD i 0+x
  rw[yKs m i x (by simp_all)]
  omega
theorem qW2:∀s m,(∀i∈s,0≤i∧i<(m.length:Int))→jq (jS s m)=jq m-s.length
 |[],m,_=>by simp[jS]
 |i::s,m,h=>by
  have hi:=h i (by simp)
  show jq (jS s (m.set i.toNat (m.getD i.toNat 0-1)))=_
  rw[qW2 s _ (by grind),yKs _ _ _ (by omega)]
  grind
theorem yD7 {B l}:∀i∈eM B l,0≤i∧i<(B.1.length:Int):=by
 intro i hi
 obtain⟨x,hx,rfl⟩:=List.mem_map.1 hi
 simp_all
theorem yCo:∀{m},nM m→0≤jq m
 |[],_=>Int.le_refl 0
 |x::m,h=>by
  have h1:0≤x:=h 0
  have h2:=yCo (m:=m) (fun i=>h (i+1))
  show 0≤x+jq m
  omega
theorem qXi {B l}(hl:∀q∈l,yM B.1.length q):∀(N:Nat) m,m.length=B.1.length→nM m→jq m≤N→∃f n,jo B l m f n∧n≤N
 |N,m,hm,h0,hN=>by
  by_cases c:eM B (vY l m)=[]
  ·exact⟨m,0,.stop c,by simp⟩
  ·have ht:=qW2 (eM B (vY l m)) m (by rw[hm];exact yD7)
   have hp:0<(eM B (vY l m)).length:=by grind
   have h1:=Pf hl hm h0
   have h2:=yCo h1
   obtain⟨N,rfl⟩:∃x,N=x+1:=⟨N-1,by omega⟩
   obtain⟨f,n,h3,h4⟩:=qXi hl N _ ((uR _ _).trans hm) h1 (by omega)
   exact⟨f,n+1,.step c h3,by omega⟩
theorem qSi l many:∀N,(ll l many N).length≤N
 |0=>Nat.le_refl _
 |N+1=>by
  unfold ll
  have:=qSi l many N
  grind
theorem yW4 (l:List zC) i (hi:i<l.length) f:jC (l.take (i+1)) f=jC (l.take i) f+(if(l.getD i pd).2.1=f then 1 else 0):=by
 unfold jC
 rw[EJ _ _ _ pd hi,List.length_append]
 unfold jF
 grind
def gw (l:List zC)(n:Nat):AC:=(List.range n).map fun(i:Nat)=>((jC l i:Nat):Int)
theorem vE0 l i:gw l (i+1)=gw l i++[((jC l i:Nat):Int)]:=by
 unfold gw
 rw[List.range_succ,List.map_append];rfl
theorem A3 l n:(gw l n).length=n:=by
 unfold gw;simp
theorem Pg:∀s m i,m.getD i 0-s.length≤(jS s m).getD i 0∧(jS s m).getD i 0≤m.getD i 0
 |[],m,i=>by simp[jS]
 |x::s,m,i=>by
  have h:=Pg s (m.set x.toNat (m.getD x.toNat 0-1)) i
  rw[jQ] at h
  have e:jS (x::s) m=jS s (m.set x.toNat (m.getD x.toNat 0-1)):=rfl
  rw[e,List.length_cons]
  by_cases c:x.toNat=i∧x.toNat<m.length
  ·grind
  omega
theorem vIo (s m:AC) i (hi:i<s.length):jS (s.take (i+1)) m=(jS (s.take i) m).set (s.getD i 0).toNat ((jS (s.take i) m).getD (s.getD i 0).toNat 0-1):=by
 unfold jS
 rw[←dE s i 0 hi,List.foldl_append]
 rfl
theorem qWu g:∀n,zL (fun x=>x) ((List.range n).map g)=qH g n
 |0=>rfl
 |n+1=>by
  rw[List.range_succ,List.map_append,iE,qWu g n]
  show qH g n+(g n+0)=qH g n+g n
  omega
theorem yLy l f:((jC l f:Nat):Int)=zL (fun p:zC=>if p.2.1=f then 1 else 0) l:=by
 induction l with
 |nil=>rfl
 |cons p l ih=>
  unfold jC jF at*
  show _=(if p.2.1=f then(1:Int) else 0)+zL _ l
  grind
theorem yYp l n:jq (gw l n)≤l.length:=by
 unfold jq gw
 rw[qWu (fun i:Nat=>((jC l i:Nat):Int)) n,nC (h:=fun j=>zL (fun p:zC=>if p.2.1=(j:Int) then 1 else 0) l) (fun j _=>yLy l j),HU]
 have := (yh (A := 1) (l := l) (g := fun p : zC => qH (fun j => if p.2.1 = (j : Int) then 1 else 0) n) (fun p _=>by
  by_cases c:0≤p.2.1
  ·obtain⟨f,hf⟩:∃f:Nat,p.2.1=f:=⟨p.2.1.toNat,by omega⟩
   have e:qH (fun j=>if p.2.1=(j:Int) then(1:Int) else 0) n=qH (fun j=>if j=f then 1 else 0) n:=by grind
   rw[e,ur]
   omega
  ·have e:qH (fun j=>if p.2.1=(j:Int) then(1:Int) else 0) n=qH (fun _=>0) n:=by grind
   rw[e,NT]
   omega)).2
 omega
theorem qV4 l n i:(gw l n).getD i 0=if i<n then((jC l i:Nat):Int) else 0:=by
 unfold gw
 grind
theorem yX1 l f:jC l f≤l.length:=List.length_filter_le _ _
theorem Ph {l}(hl:l.length≤1000) n:nM (gw l n)∧∀i,(gw l n).getD i 0≤1000:=by
 refine⟨fun i=>?_,fun i=>?_⟩
 ·rw[qV4];omega
 ·rw[qV4]
  have:=yX1 l i
  omega
theorem Pj {B:BT}{l}(hl:∀q∈l,yM B.1.length q)(cy:l.length≤64) m:wB B.1.length (vY l m):=
 ⟨fun p hp=>hl p ((A2 l m).subset hp),by have:=(A2 l m).length_le;omega⟩
def vZ (l:List zC)(t:Int):List zC:=l.filter (mh t)
theorem Jc {n l t}(h:∀q∈l,yM n q):∀q∈vZ l t,yM n q:=fun q hq=>h q (List.mem_filter.1 hq).1
theorem E7 l t:(vZ l t).length≤l.length:=List.length_filter_le _ _
theorem qS1 {B}(hb:qV B){l}(hl:∀q∈l,yM B.1.length q)(cy:l.length≤64) t:
  ∃f n,jo B (vZ l t) (gw (vZ l t) B.1.length) f n∧n≤(vZ l t).length:=by
 have h1:=Ph (l:=vZ l t) (by have:=E7 l t;omega) B.1.length
 have h2:=yYp (vZ l t) B.1.length
 exact qXi (Jc hl) (vZ l t).length _ (A3 _ _) h1.1 (by omega)
def nN (l:List zC)(hs:List zC):List zC:=hs.foldl (fun l p=>jL l p.1) l
theorem yXn l id:(jL l id).length≤l.length∧List.Sublist (jL l id) l:=by
 unfold jL mi
 cases wO l id with
 |none=>simp
 |some x=>exact⟨(pw l x).length_le,pw l x⟩
theorem Pk:∀hs l,(nN l hs).length≤l.length∧List.Sublist (nN l hs) l
 |[],l=>⟨Nat.le_refl _,List.Sublist.refl _⟩
 |p::hs,l=>by
  obtain⟨h1,h2⟩:=Pk hs (jL l p.1)
  obtain⟨h3,h4⟩:=yXn l p.1
  exact⟨Nat.le_trans h1 h3,h2.trans h4⟩
theorem yQ2 (l hs:List zC) i (hi:i<hs.length):nN l (hs.take (i+1))=jL (nN l (hs.take i)) (hs.getD i pd).1:=by
 unfold nN
 rw[←dE hs i pd hi,List.foldl_append]
 rfl
def Jd (B:BT)(l hs:List zC)(r:List qS×EQ×AC×EQ×Int):(List (Int×Int×Int))×EQ×AC×EQ×(List zC)×(List zC):=
 bif !(decide (r.2.2.2.2=0)) then(B.1,B.2.1,B.2.2.1,B.2.2.2,l,[]) else(r.1,r.2.1,r.2.2.1,r.2.2.2.1,nN l hs,hs)
theorem Pl {k:Nat}{l:List zC}(hk:l.length<k)(hl:yU l){many:AC}(h0:nM many)(hm:∀i,many.getD i 0≤1000)(I7:many.length≤1000):A4 k l many=some (vY l many):=by
 unfold yU at hl
 unfold A4 Pm Pn
 rw[qU (by omega) (by omega)]
 simp only[an,aj]
 obtain ⟨s', h1, h2, h3, h4⟩ := wE (L := fun n i (s : AC × List zC) => A5 k n l l.length i s.1 s.2) (N := l.length) (fun s => s) (fun i s => s.1.length = many.length ∧ (∀ f : Nat, f < many.length → s.1.getD f 0 = if many.getD f 0 ≤ (jC (l.take i) f : Nat) then 0 else many.getD f 0 - (jC (l.take i) f : Nat)) ∧ s.2 = ll l many i) (fun n s _=>by
  show A6 k _ l l.length l.length s.1 s.2=_
  unfold A6
  simp only [qJ, ak (Nat.lt_irrefl _), ao]) (fun n i s hi hs=>by
  obtain⟨s1,s2,s3⟩:=hs
  have fH:s.2.length≤i:=by rw[s3];exact qSi l many i
  show∃s',A6 k _ l l.length i s.1 s.2=_∧_
  unfold A6 Po
  simp only[qG,qK hi (show l.length<9223372036854775808 by omega),qJ,aJ,ah hi,an,rY (show s.2.length≤1000 by omega)]
  have ko:=fun f=>yW4 l i hi f
  have Dl:∀f:Nat,f<many.length→(l.getD i pd).2.1≠(f:Int)→(if many.getD f 0≤(jC (l.take (i+1)) f:Nat) then(0:Int) else many.getD f 0-(jC (l.take (i+1)) f:Nat))=if many.getD f 0≤(jC (l.take i) f:Nat) then 0 else many.getD f 0-(jC (l.take i) f:Nat):=by
   intro f hf aV
   rw[ko f,if_neg aV,Nat.add_zero]
  have skip:so l many i=false→(∀f:Nat,f<many.length→(l.getD i pd).2.1=(f:Int)→many.getD f 0≤(jC (l.take i) f:Nat))→(s.1.length=many.length∧(∀f:Nat,f<many.length→s.1.getD f 0=if many.getD f 0≤(jC (l.take (i+1)) f:Nat) then 0 else many.getD f 0-(jC (l.take (i+1)) f:Nat))∧s.2=ll l many (i+1)):=by
   intro hh hz
   refine⟨s1,fun f hf=>?_,?_⟩
   ·by_cases c:(l.getD i pd).2.1=(f:Int)
    ·have:=hz f hf c
     rw[s2 f hf,if_pos this,ko f,if_pos c,if_pos (by omega)]
    ·rw[Dl f hf c,s2 f hf]
   ·show _=ll l many i++_
    rw[hh,s3];simp
  cases e1:decide ((l.getD i pd).2.1<0) with
  |true=>
   refine⟨s,rfl,skip ?_ ?_⟩
   ·unfold so
    rw[bH] at e1
    rw[ak (show¬(l.getD i pd).2.1≥0 by omega)];rfl
   ·intro f hf c
    rw[bH] at e1
    omega
  |false=>
   cases e2:decide ((l.getD i pd).2.1≥((s.1.length:Nat):Int)) with
   |true=>
    refine⟨s,rfl,skip ?_ ?_⟩
    ·unfold so
     rw[bH] at e2
     rw[ak (show¬(l.getD i pd).2.1<(many.length:Int) by omega),Bool.and_false];rfl
    ·intro f hf c
     rw[bH] at e2
     omega
   |false=>
    rw[decide_eq_false_iff_not] at e1 e2
    obtain⟨f,hf⟩:∃f:Nat,(l.getD i pd).2.1=f:=⟨(l.getD i pd).2.1.toNat,by omega⟩
    have tG:f<many.length:=by omega
    have cT:(l.getD i (0,(0,(0,(0,(0,(0,0))))))).2.1=f:=hf
    simp only[ao,cT,qG,aJ,s1,ah tG,an]
    have tL:so l many i=decide (((jC (l.take i) f:Nat):Int)<many.getD f 0):=by
     unfold so
     rw[hf,ah (show(f:Int)≥0 by omega),ah (show(f:Int)<(many.length:Int) by omega),aJ]
     rfl
    have iG:=s2 f tG
    cases e3:decide (s.1.getD f 0<1) with
    |true=>
     rw[bH,iG] at e3
     have hle:many.getD f 0≤(jC (l.take i) f:Nat):=by
      by_cases c:many.getD f 0≤(jC (l.take i) f:Nat)
      ·exact c
      ·rw[if_neg c] at e3;omega
     refine⟨s,rfl,skip (by rw[tL];exact ak (by omega)) ?_⟩
     intro g hg c
     have:g=f:=by omega
     subst this
     exact hle
    |false=>
     rw[decide_eq_false_iff_not] at e3
     have hgt:¬many.getD f 0≤(jC (l.take i) f:Nat):=by
      intro c
      rw[iG,if_pos c] at e3
      omega
     rw[if_neg hgt] at iG
     have ku:=hm f
     have hw:zA (s.1.getD f 0-1)=s.1.getD f 0-1:=qI (by omega) (by omega)
     refine⟨(s.1.set f (s.1.getD f 0-1),s.2++[l.getD i pd]),?_,?_,?_,?_⟩
     ·simp only[ao,aj,an,hw]
     ·rw[List.length_set];exact s1
     ·intro g hg
      rw[jQ]
      by_cases c:f=g
      ·subst c
       rw[if_pos ⟨rfl,by omega⟩,ko f,if_pos hf,iG]
       by_cases d:many.getD f 0≤((jC (l.take i) f+1:Nat):Int)
       ·rw[if_pos d];omega
       ·rw[if_neg d];omega
      ·rw[if_neg (fun e=>c e.1),Dl g hg (by omega)]
       exact s2 g hg
     ·show s.2++[l.getD i pd]=ll l many i++_
      rw[tL,ah (by omega),s3];rfl) (s:=(many,[])) hk ⟨rfl,fun f hf=>by
   have:(jC (l.take 0) f:Nat)=0:=rfl
   have h0f:=h0 f
   rw[this]
   by_cases c:many.getD f 0≤((0:Nat):Int)
   ·rw[if_pos c]
    show many.getD f 0=0
    omega
   ·rw[if_neg c]
    show many.getD f 0=_
    omega,rfl⟩
 have fB:A5 k k l l.length 0 many []=some s':=h1
 rw[fB]
 simp only[aj,h4]
 rfl
theorem yJb {k:Nat}{l:List zC}(hk:l.length<k)(hl:yU l)(f:Int):E8 k l f=some (l.filter (jF f)):=by
 unfold E8 Pp
 have := Z1 pd (L := fun n i s => E9 k n l l.length i f s) (jF f) id (fun n s=>by
  show A7 k _ l l.length l.length f s=_
  unfold A7
  simp only [qJ, ak (Nat.lt_irrefl _), ao]; rfl) (fun n i s hi hs=>by
  show A7 k _ l l.length i f s=_
  unfold A7 Pq
  unfold yU at hl
  simp only[qG,qK hi (show l.length<9223372036854775808 by omega),qJ,aJ,ah hi,an,rY (show s.length≤1000 by omega)]
  unfold jF
  cases h1:decide ((l.getD i pd).2.1=f)<;>rfl) hk
 rw[this]
 rfl
theorem vA5 {k:Nat}{B:BT}{l:List zC}(hk:l.length<k)(hl:yU l)(hn:B.1.length<k)(hn':B.1.length≤1000)(s7:Int):
  uS k k s7 B.1.length 0 B.1 B.2.1 B.2.2.1 B.2.2.2 [] l=some (s7,B.1,B.2.1,B.2.2.1,B.2.2.2,gw l B.1.length,l):=by
 obtain ⟨s', h1, h2⟩ := wE (L := fun n i (s : AC) => uS k n s7 B.1.length i B.1 B.2.1 B.2.2.1 B.2.2.2 s l) (N := B.1.length) (fun s => (s7, B.1, B.2.1, B.2.2.1, B.2.2.2, s, l)) (fun i s => s = gw l i) (fun n s _=>by
  show A8 k _ s7 B.1.length B.1.length B.1 B.2.1 B.2.2.1 B.2.2.2 s l=_
  unfold A8
  simp only [qJ, ak (Nat.lt_irrefl _), ao]) (fun n i s hi hs=>by
  refine⟨_,?_,(vE0 l i).symm⟩
  show A8 k _ s7 B.1.length i B.1 B.2.1 B.2.2.1 B.2.2.2 s l=_
  unfold A8
  have hr:zY (s.length+1) 8=true:=by rw[hs,A3];exact qU (by omega) (by omega)
  simp only[qJ,ah hi,an,yJb hk hl,aj,hr,qK hi (show B.1.length<9223372036854775808 by omega)]
  rw[hs]
  rfl) (s:=[]) hn rfl
 exact h1.trans (by rw[h2])
theorem yX3 {k:Nat}{B:BT}{l:List zC}{s m:AC}(hk:s.length<k)(hs:s.length≤1000)(eE:∀x∈s,0≤x∧x<(m.length:Int))(h0:nM m)(hm:∀i,m.getD i 0≤1000)(s7:Int):
  A9 k k s7 s.length 0 B.1 B.2.1 B.2.2.1 B.2.2.2 m l s=some (s7,B.1,B.2.1,B.2.2.1,B.2.2.2,jS s m,l):=by
 obtain ⟨s', h1, h2⟩ := wE (L := fun n i (r : AC) => A9 k n s7 s.length i B.1 B.2.1 B.2.2.1 B.2.2.2 r l s) (N := s.length) (fun r => (s7, B.1, B.2.1, B.2.2.1, B.2.2.2, r, l)) (fun i r => r = jS (s.take i) m) (fun n r _=>by
  show Ba k _ s7 s.length s.length B.1 B.2.1 B.2.2.1 B.2.2.2 r l s=_
  unfold Ba
  simp only [qJ, ak (Nat.lt_irrefl _), ao]) (fun n i r hi hr=>by
  refine⟨_,?_,(vIo s m i hi).symm⟩
  show Ba k _ s7 s.length i B.1 B.2.1 B.2.2.1 B.2.2.2 r l s=_
  unfold Ba
  obtain⟨b1,b2⟩:=eE _ (jY (d:=0) hi)
  have xC:r.length=m.length:=by rw[hr,uR]
  have hb:zD (s.getD i 0) r.length=true:=eI b1 (by omega)
  have Zd:=Pg (s.take i) m (s.getD i 0).toNat
  have Ho:=h0 (s.getD i 0).toNat
  have ku:=hm (s.getD i 0).toNat
  have aT:(s.take i).length≤s.length:=List.length_take_le' _ _
  have hw:zA (r.getD (s.getD i 0).toNat 0-1)=r.getD (s.getD i 0).toNat 0-1:=by
   rw[hr]
   exact qI (by omega) (by omega)
  simp only[qJ,qG,aJ,ah hi,an,hb,hw,qK hi (show s.length<9223372036854775808 by omega)]
  rw[hr]) (s:=m) hk rfl
 have:=h1.trans (by rw[h2,List.take_length])
 exact this
theorem vGx {k:Nat}(hk:100<k){B:BT}(hb:qV B){l:List zC}(hl:∀q∈l,yM B.1.length q)(cy:l.length≤64){m f:AC}{n:Nat}(h:jo B l m f n):
  ∀(N:Nat) (s7:Int),m.length=B.1.length→nM m→(∀i,m.getD i 0≤1000)→n<N→0≤s7→s7+n<1000000→
  Fa k N s7 B.1 B.2.1 B.2.2.1 B.2.2.2 m l=some (s7+n+1,f):=by
 induction h with
 |@stop m h=>
  intro N s7 hm h0 h1 hn hs xN
  obtain⟨N,rfl⟩:∃x,N=x+1:=⟨N-1,by omega⟩
  have lq:=hb.n6
  show Bb k _ s7 B.1 B.2.1 B.2.2.1 B.2.2.2 m l=_
  unfold Bb
  have hS:=OE hk hb (Pj hl cy m)
  have oG:uI k B.1 B.2.1 B.2.2.1 B.2.2.2 (vY l m)=some (eM B (vY l m)):=hS
  rw[Pl (by omega) (show yU l by show l.length≤1000;omega) h0 h1 (by omega)]
  simp only[aj]
  rw[oG,h]
  simp only[aj]
  have w:zA (s7+1)=s7+1:=qI (by omega) (by omega)
  rw[w]
  simp
 |@step m f n h h' ih=>
  intro N s7 hm h0 h1 hn hs xN
  obtain⟨N,rfl⟩:∃x,N=x+1:=⟨N-1,by omega⟩
  have lq:=hb.n6
  show Bb k _ s7 B.1 B.2.1 B.2.2.1 B.2.2.2 m l=_
  unfold Bb
  have hS:=OE hk hb (Pj hl cy m)
  have oG:uI k B.1 B.2.1 B.2.2.1 B.2.2.2 (vY l m)=some (eM B (vY l m)):=hS
  rw[Pl (by omega) (show yU l by show l.length≤1000;omega) h0 h1 (by omega)]
  simp only[aj]
  rw[oG]
  simp only[aj]
  have w:zA (s7+1)=s7+1:=qI (by omega) (by omega)
  have aV : decide ((((eM B (vY l m)).length : Nat) : Int) = 0) = false := ak (by
   have:=List.length_pos_iff.2 h
   omega)
  have fH:(eM B (vY l m)).length≤B.1.length:=by
   unfold eM uE
   rw[List.length_map]
   have:=List.length_filter_le (fun i=>jl B.1 B.2.1 B.2.2.1 B.2.2.2 (vY l m) i) (List.range B.1.length)
   rwa [List.length_range] at this
  rw[aV,w]
  simp only[ao]
  rw[yX3 (by omega) (by omega) (by rw[hm];exact yD7) h0 h1]
  simp only[aj]
  have hd0:=Pf hl hm h0
  have:=ih N (s7+1) ((uR _ _).trans hm) hd0 (fun i=>by have:=(Pg (eM B (vY l m)) m i).2;have:=h1 i;omega) (by omega) (by omega) (by omega)
  rw[this]
  congr 2
  omega
theorem yN3 {k:Nat}(hk:100<k){B:BT}(hb:qV B){l:List zC}(hl:∀q∈l,yM B.1.length q)(cy:l.length≤64)(t:Int){f:AC}{n:Nat}(hn:n≤l.length)(h:jo B (vZ l t) (gw (vZ l t) B.1.length) f n):
  Je k B.1 B.2.1 B.2.2.1 B.2.2.2 l t=some (f,((n+1:Nat):Int)):=by
 have lq:=hb.n6
 have hr:=E7 l t
 have h1:=Ph (l:=vZ l t) (by omega) B.1.length
 unfold Je
 rw[OH (by omega) (by show l.length≤1000;omega)]
 simp only[aj]
 have e:uS k k 0 B.1.length 0 B.1 B.2.1 B.2.2.1 B.2.2.2 [] (l.filter (mh t))=_:=vA5 (k:=k) (B:=B) (l:=vZ l t) (by omega) (by show(vZ l t).length≤1000;omega) (by omega) (by omega) 0
 rw[e]
 simp only[aj]
 rw[vGx hk hb (Jc hl) (by omega) h k 0 (A3 _ _) h1.1 h1.2 (by omega) (by omega) (by omega)]
 simp
theorem vAs {k:Nat}{C:BT}{l hs:List zC}(hl:l.length<k)(fe:l.length≤1000)(hk:hs.length<k)(hh:hs.length≤1000):
  uT k k l hs.length 0 C.1 C.2.1 C.2.2.1 C.2.2.2 hs=some (nN l hs,C.1,C.2.1,C.2.2.1,C.2.2.2,hs):=by
 obtain ⟨s', h1, h2⟩ := wE (L := fun n i (s : List zC) => uT k n s hs.length i C.1 C.2.1 C.2.2.1 C.2.2.2 hs) (N := hs.length) (fun s => (s, C.1, C.2.1, C.2.2.1, C.2.2.2, hs)) (fun i s => s = nN l (hs.take i)) (fun n s _=>by
  show Bc k _ s hs.length hs.length C.1 C.2.1 C.2.2.1 C.2.2.2 hs=_
  unfold Bc
  simp only [qJ, ak (Nat.lt_irrefl _), ao]) (fun n i s hi hr=>by
  refine⟨_,?_,(yQ2 l hs i hi).symm⟩
  show Bc k _ s hs.length i C.1 C.2.1 C.2.2.1 C.2.2.2 hs=_
  unfold Bc
  have fH:=(Pk (hs.take i) l).1
  rw[←hr] at fH⊢
  simp only[qJ,qG,aJ,ah hi,an,uL (show s.length<k by omega) (show yU s by show s.length≤1000;omega),aj,qK hi (show hs.length<9223372036854775808 by omega)]
  rfl) (s:=l) hk rfl
 have:=h1.trans (by rw[h2,List.take_length])
 exact this
theorem yHt {k:Nat}(hk:100<k){B:BT}(hb:qV B){l:List zC}(hl:∀q∈l,yM B.1.length q)(cy:l.length≤64)(t:Int){f:AC}{n:Nat}(hn:n≤l.length)(h:jo B (vZ l t) (gw (vZ l t) B.1.length) f n)
  {r:List qS×EQ×AC×EQ×Int} (hr:mg k B.1 B.2.1 B.2.2.1 B.2.2.2 (vY (vZ l t) f)=some r):Bd k B.1 B.2.1 B.2.2.1 B.2.2.2 l t=some (Jd B l (vY (vZ l t) f) r):=by
 have lq:=hb.n6
 have xC:=E7 l t
 have h1:=Ph (l:=vZ l t) (by omega) B.1.length
 have hle:=h.le (A3 _ _)
 have h0:=h.nonneg (Jc hl) (A3 _ _) h1.1
 have tG:f.length=B.1.length:=hle.1.trans (A3 _ _)
 have hf:∀i,f.getD i 0≤1000:=fun i=>by
  by_cases c:i<(gw (vZ l t) B.1.length).length
  ·have:=hle.2 i c
   have:=h1.2 i
   omega
  ·rw[List.getD_eq_getElem?_getD,List.getElem?_eq_none (by have:=hle.1;omega)]
   show(0:Int)≤1000
   omega
 have hhl:=(A2 (vZ l t) f).length_le
 unfold Bd
 rw[yN3 hk hb hl cy t hn h,OH (by omega) (by show l.length≤1000;omega)]
 simp only[aj]
 have e:A4 k (l.filter (mh t)) f=_:=Pl (k:=k) (l:=vZ l t) (by omega) (by show(vZ l t).length≤1000;omega) h0 hf (by omega)
 rw[e]
 simp only[aj]
 rw[hr]
 simp only[aj]
 unfold Jd
 cases decide (r.2.2.2.2=0) with
 |false=>rfl
 |true=>
  simp only[aW,ao]
  have e2:uT k k l ((List.length (vY (vZ l t) f):Nat):Int) 0 r.1 r.2.1 r.2.2.1 r.2.2.2.1 (vY (vZ l t) f)=_:=vAs (C:=(r.1,r.2.1,r.2.2.1,r.2.2.2.1)) (by omega) (by omega) (by omega) (by omega)
  rw[e2]
  rfl
theorem vD0 {l:List zC}{x:Nat}(hx:x<l.length):List.Perm (l.getD x pd::vL l x) l:=by
 unfold vL
 have h:List.Perm (l.getD x pd::(l.take x++l.drop (x+1))) (l.take x++l.getD x pd::l.drop (x+1)):=List.perm_middle.symm
 have e:=EL l x pd hx
 rw[←e] at h
 exact h
theorem Jf {l:List zC}(hd:qO l){p:zC}(hp:p∈l):List.Perm (p::jL l p.1) l:=by
 obtain⟨x,hx⟩:=IM hp
 have h:=lg hx
 have e:l.getD x pd=p:=hd.eq_of (jY h.1) hp h.2
 unfold jL mi
 rw[hx]
 have:=vD0 h.1
 rw[e] at this
 exact this
theorem fj.perm {k:Nat}{t:Int}{B C:BT}{l done m:List zC}(h:fj k t B l done C m)(hd:qO l):List.Perm (done++m) l:=by
 induction h with
 |stop _=>exact List.Perm.refl _
 |step h _ ih=>
  have hp:=EZ (AU h).1
  exact((ih (List.Pairwise.sublist (uP hp).2 hd)).cons _).trans (Jf hd hp)
theorem jP.perm {k:Nat}{t:Int}{B C:BT}{l done m:List zC}(h:jP k t B l done C m)(hd:qO l):List.Perm (done++m) l:=by
 induction h with
 |stop _=>exact List.Perm.refl _
 |step h _ ih=>
  obtain⟨hp,hq,nL,_⟩:=E2 h
  obtain⟨h1,h2⟩:=E3 hd hp hq nL
  have re:qO (jL _ _):=List.Pairwise.sublist (uP hp).2 hd
  have lk:=Pd hp hq (qXf hd hp hq nL)
  exact(((ih (List.Pairwise.sublist h2 hd)).cons _).cons _).trans (((Jf re lk).cons _).trans (Jf hd hp))
theorem fj.final {k:Nat}{t:Int}{B C:BT}{l done m:List zC}(h:fj k t B l done C m):jU k C (wK m t)=none:=by
 induction h with
 |stop h=>exact h
 |step _ _ ih=>exact ih
theorem jP.final {k:Nat}{t:Int}{B C:BT}{l done m:List zC}(h:jP k t B l done C m):ek k C m t=none:=by
 induction h with
 |stop h=>exact h
 |step _ _ ih=>exact ih
theorem qO.perm {l m:List zC}(h:qO l)(hp:List.Perm m l):qO m:=(List.Perm.pairwise_iff (R:=fun p q:zC=>p.1≠q.1) (fun GN=>Ne.symm GN) hp.symm).1 h
inductive kA (k:Nat) (t:Int):BT→List zC→List zC→BT→List zC→Prop
 |stop {B C:BT} {l m d:List zC} (h1:fj k t B l d C m) (h2:ek k C m t=none):kA k t B l d C m
 |step {B C D E:BT} {l m n o d e f:List zC} (h1:fj k t B l d C m) (h2:jP k t C m e D n) (ne:e≠[]) (h':kA k t D n f E o):kA k t B l (d++e++f) E o
theorem kA.perm {k:Nat}{t:Int}{B C:BT}{l done m:List zC}(h:kA k t B l done C m)(hd:qO l):List.Perm (done++m) l:=by
 induction h with
 |stop h1 _=>exact h1.perm hd
 |@step B C D E l m n o d e f h1 h2 ne h' ih=>
  have p1:=h1.perm hd
  have hd1:=hd.perm p1
  have hm:qO m:=(List.pairwise_append.1 hd1).2.1
  have p2:=h2.perm hm
  have hn:qO n:=(List.pairwise_append.1 (hm.perm p2)).2.1
  have p3:=ih hn
  have e1:d++e++f++o=d++(e++(f++o)):=by simp
  rw[e1]
  exact((p3.append_left e).append_left d).trans ((p2.append_left d).trans p1)
theorem kA.final {k:Nat}{t:Int}{B C:BT}{l done m:List zC}(h:kA k t B l done C m):jU k C (wK m t)=none∧ek k C m t=none:=by
 induction h with
 |stop h1 h2=>exact⟨h1.final,h2⟩
 |step _ _ _ _ ih=>exact ih
theorem fj.none {k:Nat}{t:Int}{B C:BT}{l done m:List zC}(h:fj k t B l done C m)(hn:jU k B (wK l t)=none):done=[]∧C=B∧m=l:=by
 cases h with
 |stop _=>exact⟨rfl,rfl,rfl⟩
 |step h _=>rw[hn] at h;cases h
theorem jP.none {k:Nat}{t:Int}{B C:BT}{l done m:List zC}(h:jP k t B l done C m)(hn:ek k B l t=none):done=[]∧C=B∧m=l:=by
 cases h with
 |stop _=>exact⟨rfl,rfl,rfl⟩
 |step h _=>rw[hn] at h;cases h
theorem jP.nil {k:Nat}{t:Int}{B C:BT}{l m:List zC}(h:jP k t B l [] C m):ek k B l t=Option.none∧C=B∧m=l:=by
 cases h with
 |stop h=>exact⟨h,rfl,rfl⟩
theorem kA.none {k:Nat}{t:Int}{B C:BT}{l done m:List zC}(h:kA k t B l done C m)(h1:jU k B (wK l t)=Option.none)(h2:ek k B l t=Option.none):done=[]∧C=B∧m=l:=by
 cases h with
 |stop g1 _=>exact g1.none h1
 |step g1 g2 ne _=>
  obtain⟨rfl,rfl,rfl⟩:=g1.none h1
  obtain⟨rfl,_,_⟩:=g2.none h2
  exact absurd rfl ne
theorem qQg {k:Nat}(hk:200≤k)(t:Int):∀(n:Nat) (B:BT) (l r:List zC),qV B→qO l→l.length≤100→l.length<n→r.length+l.length≤900→
  ∃(C:BT) (m done:List zC),Fc k n t l B.1 B.2.1 B.2.2.1 B.2.2.2 r=some (m,C.1,C.2.1,C.2.2.1,C.2.2.2,r++done)∧kA k t B l done C m∧qV C∧C.1.length=B.1.length∧List.Sublist m l
 |0,_,_,_,_,_,_,h,_=>absurd h (Nat.not_lt_zero _)
 |n+1,B,l,r,hb,hd,hl,hn,hr=>by
  obtain⟨C,m,d,f1,f2,f3,f4,f5⟩:=yUi hk hb hd hl t
  have p1:=f2.perm hd
  have l1:=p1.length_eq
  rw[List.length_append] at l1
  have hm:qO m:=List.Pairwise.sublist f5 hd
  obtain⟨D,o,e,g1,g2,g3,g4,g5⟩:=yZ3 hk f3 hm (by omega) t
  have p2:=g2.perm hm
  have l2:=p2.length_eq
  rw[List.length_append] at l2
  have r1:zY (r.length+d.length) 56=true:=qU (by omega) (by omega)
  have r2:zY ((r++d).length+e.length) 56=true:=qU (by rw[List.length_append];omega) (by rw[List.length_append];omega)
  show∃C' m' aaa,Jg k _ t l B.1 B.2.1 B.2.2.1 B.2.2.2 r=_∧_
  unfold Jg
  rw[f1]
  simp only[aj]
  rw[g1]
  simp only[aj,r1,r2,an]
  cases e with
  |nil=>
   obtain⟨h1,h2,h3⟩:=g2.nil
   subst h2;subst h3
   refine⟨D,o,d,?_,.stop f2 h1,f3,f4,f5⟩
   simp
  |cons p e=>
   have aT:o.length+(e.length+1)=m.length:=by simp at l2;omega
   obtain⟨E,q,f,k1,k2,k3,k4,k5⟩:=qQg hk t n D o (r++d++(p::e)) g3 (List.Pairwise.sublist g5 hm) (by omega) (by omega) (by simp;omega)
   refine⟨E,q,d++(p::e)++f,?_,.step f2 g2 (by simp) k2,k3,k4.trans (g4.trans f4),k5.trans (g5.trans f5)⟩
   have e1:decide ((((p::e).length:Nat):Int)=0)=false:=ak (by simp;omega)
   rw[e1]
   simp only[ao]
   rw[k1]
   simp
theorem Jh {k:Nat}(hk:200≤k){B:BT}(hb:qV B){l:List zC}(hd:qO l)(hl:l.length≤100)(t:Int):
  ∃(C:BT) (m done:List zC),Fe k B.1 B.2.1 B.2.2.1 B.2.2.2 l t=some (C.1,C.2.1,C.2.2.1,C.2.2.2,m,done)∧kA k t B l done C m∧qV C∧C.1.length=B.1.length∧List.Sublist m l:=by
 obtain⟨C,m,done,h1,h3⟩:=qQg hk t k B l [] hb hd hl (by omega) (by simp;omega)
 refine⟨C,m,done,?_,h3⟩
 unfold Fe
 rw[h1]
 rfl
theorem yFp:∀(hs l:List zC),qO l→qO hs→(∀q∈hs,q∈l)→List.Perm (hs++nN l hs) l
 |[],l,_,_,_=>List.Perm.refl _
 |p::hs,l,hd,hh,eE=>by
  have hp:=eE p (List.mem_cons_self ..)
  obtain⟨h1,h2⟩:=uP hp
  have hc:=List.pairwise_cons.1 hh
  have:=yFp hs (jL l p.1) (List.Pairwise.sublist h2 hd) hc.2 (fun q hq=>Pd hp (eE q (List.mem_cons_of_mem _ hq)) (fun e=>hc.1 q hq e.symm))
  exact(this.cons p).trans (Jf hd hp)
theorem vC0 {k:Nat}(hk:100<k){B:BT}(hb:qV B):mg k B.1 B.2.1 B.2.2.1 B.2.2.2 []=some (B.1,B.2.1,B.2.2.1,B.2.2.2,0):=by
  obtain⟨r,h1,h3⟩:=Iz hk hb (l:=[]) (by simp)
  have aL:wB B.1.length []:=⟨fun p hp=>(by cases hp),by simp⟩
  obtain⟨a',p',h4,h5⟩:=h3.1 aL
  have ab:pt B.1.length B.1 B.2.2.2 [] B.1 B.2.2.2:={
    al:=rfl
    acct:=fun i hi=>by
      have hc:=hb.acct i hi
      have hr:0≤(B.1.getD i ad).2.2:=by
        have:=hb.nums.res i hi
        exact this.1
      show B.1.getD i ad=((B.1.getD i ad).1+0,(B.1.getD i ad).2.1,wG (B.1.getD i ad).2.2 0)
      have e:wG (B.1.getD i ad).2.2 0=(B.1.getD i ad).2.2:=by
        unfold wG
        split<;>omega
      rw[e,Int.add_zero]
    pl:=hb.pl
    pr:=hb.pr
    cell:=fun i hi j hj=>by show _=_+0-0;omega}
  obtain⟨e1,e2⟩:=h4.same ab
  subst e1;subst e2
  rw[Ij.2 hb] at h5
  rw[h1,h5]
  rfl
theorem yHr {k:Nat}(hk:200≤k){B:BT}(hb:qV B){l:List zC}(hd:qO l)(hl:∀q∈l,yM B.1.length q)(cy:l.length≤64)(t:Int):
  ∃(C:BT) (m done:List zC),Bd k B.1 B.2.1 B.2.2.1 B.2.2.2 l t=some (C.1,C.2.1,C.2.2.1,C.2.2.2,m,done)∧qV C∧C.1.length=B.1.length∧List.Sublist m l∧List.Perm (done++m) l∧(done=[]→C=B∧m=l):=by
 obtain⟨f,n,h,hn⟩:=qS1 hb hl cy t
 have xC:=E7 l t
 have cS:=A2 (vZ l t) f
 have hhl:=cS.length_le
 obtain⟨r,h1,h2,h3⟩:=I5 (k:=k) (by omega) hb (l:=vY (vZ l t) f) (by omega)
 have hs:=I4 hb h3
 have g1:=yHt (k:=k) (by omega) hb hl cy t (by omega) h h1
 unfold Jd at g1
 cases c:decide (r.2.2.2.2=0) with
 |false=>
  rw[c] at g1
  exact⟨B,l,[],g1,hb,rfl,List.Sublist.refl _,List.Perm.refl _,fun _=>⟨rfl,rfl⟩⟩
 |true=>
  rw[c] at g1
  have fH:List.Sublist (vY (vZ l t) f) l:=cS.trans List.filter_sublist
  have hal:r.1.length=B.1.length:=by
   by_cases c':wB B.1.length (vY (vZ l t) f)
   ·obtain⟨a',p',x,e⟩:=h3.1 c'
    cases hi:jk a' B.2.1 B.2.2.1 p' with
    |false=>rw[hi] at e;subst e;rfl
    |true=>rw[hi] at e;subst e;exact x.al
   ·rw[h3.2 c']
  refine⟨(r.1,r.2.1,r.2.2.1,r.2.2.2.1),nN l (vY (vZ l t) f),vY (vZ l t) f,g1,hs.2.1,hal,(Pk _ _).2,yFp _ _ hd (List.Pairwise.sublist fH hd) (fun q hq=>fH.subset hq),fun e=>?_⟩
  rw[e] at h1⊢
  rw[vC0 (by omega) hb] at h1
  cases h1
  exact⟨rfl,rfl⟩
theorem yHm {k:Nat}(hk:200≤k){B:BT}(hb:qV B){l:List zC}(hd:qO l)(hl:∀q∈l,yM B.1.length q)(cy:l.length≤64)(t:Int)(all:Bool):
  ∃(C:BT) (m done:List zC),uU k B.1 B.2.1 B.2.2.1 B.2.2.2 l t all=some (C.1,C.2.1,C.2.2.1,C.2.2.2,m,done)∧qV C∧C.1.length=B.1.length∧List.Sublist m l∧List.Perm (done++m) l∧jU k C (wK m t)=none∧ek k C m t=none:=by
 obtain⟨C,m,d,f1,f2,f3,f4,f5⟩:=Jh hk hb hd (by omega) t
 have p1:=f2.perm hd
 have l1:=p1.length_eq
 rw[List.length_append] at l1
 unfold uU
 rw[f1]
 simp only[aj]
 cases all with
 |false=>exact⟨C,m,d,rfl,f3,f4,f5,p1,f2.final⟩
 |true=>
  simp only[aW,ao]
  have hm:qO m:=List.Pairwise.sublist f5 hd
  obtain⟨D,n,x,g1,g2,g3,g4,g5,g6⟩:=yHr hk f3 hm (fun q hq=>by rw[f4];exact hl q (f5.subset hq)) (by omega) t
  have l2:=g5.length_eq
  rw[List.length_append] at l2
  rw[g1]
  simp only[aj]
  cases x with
  |nil=>
   obtain⟨rfl,rfl⟩:=g6 rfl
   exact⟨D,n,d,rfl,f3,f4,f5,p1,f2.final⟩
  |cons p x=>
   have e1:decide ((((p::x).length:Nat):Int)=0)=false:=ak (by simp;omega)
   rw[e1]
   simp only[ao]
   have hn:qO n:=List.Pairwise.sublist g4 hm
   obtain⟨E,o,y,k1,k2,k3,k4,k5⟩:=Jh hk g2 hn (by omega) t
   have p3:=k2.perm hn
   have l3:=p3.length_eq
   rw[List.length_append] at l3
   have r1:zY (d.length+(p::x).length) 56=true:=qU (by simp at l2⊢;omega) (by simp at l2⊢;omega)
   have r2:zY ((d++(p::x)).length+y.length) 56=true:=qU (by simp at l2⊢;omega) (by simp at l2⊢;omega)
   rw[k1]
   simp only[aj,r1,r2,an]
   refine⟨E,o,d++(p::x)++y,rfl,k3,k4.trans (g3.trans f4),k5.trans (g4.trans f5),?_,k2.final⟩
   have e2:d++(p::x)++y++o=d++((p::x)++(y++o)):=by simp
   rw[e2]
   exact((p3.append_left (p::x)).append_left d).trans ((g5.append_left d).trans p1)
abbrev vC:=Int×Int×Int×Int×Int×Int×Int×Int
instance uV:DecidableEq vC:=@instDecidableEqProd Int (Int×Int×Int×Int×Int×Int×Int) inferInstance (@instDecidableEqProd Int (Int×Int×Int×Int×Int×Int) inferInstance inferInstance)
def jN (to:Int)(p:zC):vC:=(to,18,p.1,p.2.1,p.2.2.1,p.2.2.2.1,0,0)
def nO (p:zC):List vC:=[jN p.2.1 p,jN p.2.2.1 p]
def wM:List zC→List vC
 |[]=>[]
 |p::l=>nO p++wM l
theorem qTs:∀l m,wM (l++m)=wM l++wM m
 |[],_=>rfl
 |p::l,m=>by
  show nO p++wM (l++m)=nO p++wM l++wM m
  rw[qTs l m,List.append_assoc]
theorem Ji:∀l,(wM l).length=2*l.length
 |[]=>rfl
 |p::l=>by
  show(nO p++wM l).length=_
  rw[List.length_append,Ji l]
  simp[nO]
  omega
theorem yO8 (l:List zC) i (hi:i<l.length):wM (l.take (i+1))=wM (l.take i)++nO (l.getD i pd):=by
 rw[←dE l i pd hi,qTs]
 rfl
theorem Ff {n}(h:n≤1000):zY (n+1) 64=true:=qU (by omega) (by omega)
theorem yQo {k}(hk:3≤k)(s8:List zC) s9 aw (r:List vC)(hr:r.length≤900) p:
  sr k k s8 s9 aw 2 0 r p.1 p.2.1 p.2.2.1 p.2.2.2.1 p.2.2.2.2.1 p.2.2.2.2.2.1 p.2.2.2.2.2.2 [p.2.1,p.2.2.1]=some (s8,s9,aw,r++nO p):=by
 obtain⟨n,rfl⟩:∃n,k=n+3:=⟨k-3,by omega⟩
 have e1:zY (r.length+1) 64=true:=Ff (by omega)
 have e2:zY ((r++[jN p.2.1 p]).length+1) 64=true:=Ff (by grind)
 have h1:mq (n+3) p.2.1 18 [p.1,p.2.1,p.2.2.1,p.2.2.2.1]=some (jN p.2.1 p):=rfl
 have h2:mq (n+3) p.2.2.1 18 [p.1,p.2.1,p.2.2.1,p.2.2.2.1]=some (jN p.2.2.1 p):=rfl
 have w0:zA (0+1)=1:=by decide
 have w1:zA (1+1)=2:=by decide
 show ss (n+3) (sr (n+3) (n+2)) s8 s9 aw 2 0 r p.1 p.2.1 p.2.2.1 p.2.2.2.1 p.2.2.2.2.1 p.2.2.2.2.2.1 p.2.2.2.2.2.2 [p.2.1,p.2.2.1]=_
 unfold ss
 have g0:[p.2.1,p.2.2.1].getD (Int.toNat 0) 0=p.2.1:=rfl
 have b0:zD 0 [p.2.1,p.2.2.1].length=true:=rfl
 have d0:decide ((0:Int)<2)=true:=rfl
 simp[e1]
 show ss (n+3) (sr (n+3) (n+1)) s8 s9 aw 2 1 (r++[jN p.2.1 p]) p.1 p.2.1 p.2.2.1 p.2.2.2.1 p.2.2.2.2.1 p.2.2.2.2.2.1 p.2.2.2.2.2.2 [p.2.1,p.2.2.1]=_
 unfold ss
 have g1:[p.2.1,p.2.2.1].getD (Int.toNat 1) 0=p.2.2.1:=rfl
 have b1:zD 1 [p.2.1,p.2.2.1].length=true:=rfl
 have d1:decide ((1:Int)<2)=true:=rfl
 simp only[an,aj,e2]
 show ss (n+3) (sr (n+3) n) s8 s9 aw 2 2 (r++[jN p.2.1 p]++[jN p.2.2.1 p]) p.1 p.2.1 p.2.2.1 p.2.2.2.1 p.2.2.2.2.1 p.2.2.2.2.2.1 p.2.2.2.2.2.2 [p.2.1,p.2.2.1]=_
 unfold ss
 have d2:decide ((2:Int)<2)=false:=rfl
 rw[d2,List.append_assoc]
 rfl
theorem yF5 {k}{l:List zC}(hk:l.length+3≤k)(hl:l.length≤400):Jj k l=some (wM l):=by
 unfold Jj
 obtain ⟨s', h1, h2⟩ := wE (L := fun n i (s : List vC) => Fg k n l l.length i s) (N := l.length) (fun s => s) (fun i s => s = wM (l.take i)) (fun n s _=>by
  show Be k _ l l.length l.length s=_
  unfold Be
  simp) (fun n i s hi hs=>by
  refine⟨_,?_,(yO8 l i hi).symm⟩
  show Be k _ l l.length i s=_
  unfold Be
  have fH:s.length≤900:=by
   rw[hs,Ji,List.length_take];omega
  have h2:=yQo (k:=k) (by omega) l l.length i s fH (l.getD i pd)
  simp only[qG,qJ,aJ,ah hi,an]
  rw[h2]
  simp[qK hi (by grind)]
  rw[hs]) (s:=[]) (show l.length<k by omega) rfl
 simp_all
def jZ (q:zC)(o:vC):Bool:=decide (o.2.2.1=q.1)&&(decide (o.1=q.2.1)&&(decide (o.2.1=21)||(decide (o.2.1=22)||decide (o.2.1=18))))
def gx (q:zC)(o:List vC):Nat:=o.countP (jZ q)
theorem uW (q:zC)(a b:List vC):gx q (a++b)=gx q a+gx q b:=List.countP_append
theorem Pr {f:zC→Bool}{q:zC}:∀{ps:List zC},qO ps→q∈ps→f q=true→(∀p∈ps,f p=true→p.1=q.1)→ps.countP f=1
 |[],_,h,_,_=>by cases h
 |p::ps,hd,hq,hf,hu=>by
  have hc:=List.pairwise_cons.1 hd
  rw[List.countP_cons]
  rcases List.mem_cons.1 hq with rfl|hq
  ·rw[hf,if_pos rfl]
   have:ps.countP f=0:=by
    rw[List.countP_eq_zero]
    intro r hr ua
    exact hc.1 r hr (hu r (List.mem_cons_of_mem _ hr) ua).symm
   omega
  ·have:f p=false:=by
    cases h:f p with
    |false=>rfl
    |true=>exact absurd (hu p (List.mem_cons_self ..) h) (hc.1 q hq)
   rw[this,Pr hc.2 hq hf (fun r hr=>hu r (List.mem_cons_of_mem _ hr))]
   rfl
def wY (kd:Int)(p:zC):vC:=(p.2.1,kd,p.1,0,0,0,0,0)
theorem Bf {kd:Int}(hk:kd=21∨kd=22){q:zC}{ps:List zC}(hd:qO ps):(q∈ps→gx q (ps.map (wY kd))=1)∧((∀p∈ps,p.1≠q.1)→gx q (ps.map (wY kd))=0):=by
 unfold gx
 rw[List.countP_map]
 constructor
 ·intro h
  apply Pr hd h
  ·show jZ q (wY kd q)=true
   unfold jZ wY
   rcases hk with rfl|rfl<;>simp
  ·intro p hp hf
   have cT:jZ q (wY kd p)=true:=hf
   unfold jZ wY at cT
   rw[bO,bH] at cT
   exact cT.1
 ·intro h
  rw[List.countP_eq_zero]
  intro p hp hf
  have cT:jZ q (wY kd p)=true:=hf
  unfold jZ wY at cT
  rw[bO,bH] at cT
  exact h p hp cT.1
theorem qRa (q:zC):∀(d:List zC),gx q (wM d)=d.countP (fun p=>jZ q (jN p.2.1 p))+d.countP (fun p=>jZ q (jN p.2.2.1 p))
 |[]=>rfl
 |p::d=>by
  show gx q (nO p++wM d)=_
  rw[uW,qRa q d,List.countP_cons,List.countP_cons]
  have e:gx q (nO p)=(if jZ q (jN p.2.1 p)=true then 1 else 0)+(if jZ q (jN p.2.2.1 p)=true then 1 else 0):=by
   unfold gx nO
   rw[List.countP_cons,List.countP_cons,List.countP_nil]
   omega
  rw[e]
  omega
theorem Jk {n:Nat}{q:zC}{d:List zC}(hd:qO d)(hm:∀p∈d,yM n p):(q∈d→gx q (wM d)=1)∧((∀p∈d,p.1≠q.1)→gx q (wM d)=0):=by
 have h2:∀(l:List zC),qO l→(∀p∈l,yM n p)→(q∈l∨∀p∈l,p.1≠q.1)→l.countP (fun p=>jZ q (jN p.2.2.1 p))=0:=by
  intro l uy I7 hq
  rw[List.countP_eq_zero]
  intro p hp hf
  have cT:jZ q (jN p.2.2.1 p)=true:=hf
  unfold jZ jN at cT
  rw[bO,bO,bH,bH] at cT
  rcases hq with hq|hq
  ·have:=uy.eq_of hp hq cT.1
   subst this
   exact(I7 p hp).ne cT.2.1.symm
  ·exact hq p hp cT.1
 rw[qRa]
 constructor
 ·intro h
  rw[h2 d hd hm (.inl h),Pr hd h]
  ·show jZ q (jN q.2.1 q)=true
   unfold jZ jN
   simp
  ·intro p hp hf
   have cT:jZ q (jN p.2.1 p)=true:=hf
   unfold jZ jN at cT
   rw[bO,bH] at cT
   exact cT.1
 ·intro h
  rw[h2 d hd hm (.inr h)]
  have:d.countP (fun p=>jZ q (jN p.2.1 p))=0:=by
   rw[List.countP_eq_zero]
   intro p hp hf
   have cT:jZ q (jN p.2.1 p)=true:=hf
   unfold jZ jN at cT
   rw[bO,bH] at cT
   exact h p hp cT.1
  omega
def uX (B:BT)(i:Nat):vC:=((i:Int),23,(B.1.getD i ad).1,0,0,0,0,0)
def jt (B:BT)(n:Nat):List vC:=(List.range n).map (uX B)
theorem yLd (q:zC)(B:BT)(n:Nat):gx q (jt B n)=0:=by
 unfold gx jt
 rw[List.countP_map,List.countP_eq_zero]
 intro i _ hf
 have cT:jZ q (uX B i)=true:=hf
 unfold jZ uX at cT
 simp at cT
theorem yO6 (B:BT)(i:Nat):jt B (i+1)=jt B i++[uX B i]:=by
 unfold jt
 rw[List.range_succ,List.map_append];rfl
theorem vCu {α β:Type}(f:α→β)(l:List α)(i:Nat)(d:α)(h:i<l.length):(l.take (i+1)).map f=(l.take i).map f++[f (l.getD i d)]:=by
 rw[←dE l i d h,List.map_append];rfl
theorem vDz {k:Nat}{B:BT}(hB:B.1.length≤6)(hk:200≤k){m:List zC}(hm:m.length≤100)(t:Int)(pr:AC)(ho:EQ)(ids:AC)(to:Int)(ov:Bool):
  Jl k t B.1 B.2.1 B.2.2.1 B.2.2.2 pr ho m ids to ov=some (t,B.1,B.2.1,B.2.2.1,B.2.2.2,pr,ho,[],ids,to,true,m.map (wY 22)++jt B B.1.length):=by
 unfold Jl
 obtain ⟨s', h1, h2⟩ := wE (L := fun n i (s : List vC) => Bg k n m m.length i t B.1 B.2.1 B.2.2.1 B.2.2.2 pr ho m ids to ov 0 0 false s) (N := m.length) (fun s => (t, B.1, B.2.1, B.2.2.1, B.2.2.2, pr, ho, m, ids, to, ov, 0, 0, false, s)) (fun i s => s = (m.take i).map (wY 22)) (fun n s _=>by
  show Bh k _ m m.length m.length t B.1 B.2.1 B.2.2.1 B.2.2.2 pr ho m ids to ov 0 0 false s=_
  unfold Bh
  simp only [qJ, ak (Nat.lt_irrefl _), ao]) (fun n i s hi hs=>by
  refine⟨_,?_,(vCu (wY 22) m i pd hi).symm⟩
  show Bh k _ m m.length i t B.1 B.2.1 B.2.2.1 B.2.2.2 pr ho m ids to ov 0 0 false s=_
  unfold Bh
  have fH:s.length≤900:=by rw[hs,List.length_map,List.length_take];omega
  have uY:mq k (m.getD i pd).2.1 22 [(m.getD i pd).1]=some (wY 22 (m.getD i pd)):=rfl
  simp only[pd] at uY
  simp only[qG,qJ,aJ,ah hi,an,uY,aj,Ff (show s.length≤1000 by omega),qK hi (show m.length<9223372036854775808 by omega)]
  rw[hs]) (s:=[]) (show m.length<k by omega) rfl
 have fB:Bg k k m m.length 0 t B.1 B.2.1 B.2.2.1 B.2.2.2 pr ho m ids to ov 0 0 false []=_:=h1
 rw[fB,h2,List.take_length]
 simp only[aj]
 obtain ⟨s2, g1, g2⟩ := wE (L := fun n i (s : List vC) => Bi k n B.1 B.1.length i t B.1 B.2.1 B.2.2.1 B.2.2.2 pr ho m ids to ov 0 0 false s) (N := B.1.length) (fun s => (t, B.1, B.2.1, B.2.2.1, B.2.2.2, pr, ho, m, ids, to, ov, 0, 0, false, s)) (fun i s => s = m.map (wY 22) ++ jt B i) (fun n s _=>by
  show Bj k _ B.1 B.1.length B.1.length t B.1 B.2.1 B.2.2.1 B.2.2.2 pr ho m ids to ov 0 0 false s=_
  unfold Bj
  simp only [qJ, ak (Nat.lt_irrefl _), ao]) (fun n i s hi hs=>by
  refine⟨_,?_,(show m.map (wY 22)++jt B i++[uX B i]=m.map (wY 22)++jt B (i+1) by rw[yO6,List.append_assoc])⟩
  show Bj k _ B.1 B.1.length i t B.1 B.2.1 B.2.2.1 B.2.2.2 pr ho m ids to ov 0 0 false s=_
  unfold Bj
  have fH:s.length≤900:=by
   rw[hs,List.length_append,List.length_map]
   unfold jt
   rw[List.length_map,List.length_range]
   omega
  have uY:mq k i 23 [(B.1.getD i ad).1]=some (uX B i):=rfl
  have ho3:mq k i 23 [(B.1.getD i (0,0,0)).1]=some (uX B i):=uY
  simp only[qG,qJ,aJ,ah hi,an,ho3,aj,Ff (show s.length≤1000 by omega),qK hi (show B.1.length<9223372036854775808 by omega)]
  rw[hs]) (s:=m.map (wY 22)) (show B.1.length<k by omega) (by show _=_++[];rw[List.append_nil])
 have O4:Bi k k B.1 B.1.length 0 t B.1 B.2.1 B.2.2.1 B.2.2.2 pr ho m ids to ov 0 0 false (m.map (wY 22))=_:=g1
 rw[O4,g2]
 rfl
def wX (t:Int)(p:zC):Bool:=decide (t>p.2.2.2.2.2.2)
theorem vE1 {k:Nat}(hk:200≤k){m:List zC}(hm:m.length≤100)(pa:Int)(as:List (Int×Int))(cu cl pe t:Int)(B:BT)(pr:AC)(ho:EQ)(ids:AC)(to:Int)(ov:Bool):
  Bk k k m m.length 0 pa as cu cl pe t B.1 B.2.1 B.2.2.1 B.2.2.2 pr ho m ids to ov 0 0 false [] []=some (pa,as,cu,cl,pe,t,B.1,B.2.1,B.2.2.1,B.2.2.2,pr,ho,m,ids,to,ov,0,0,false,(m.filter (wX t)).map (wY 21),m.filter (fun p=> !wX t p)):=by
 obtain ⟨s', h1, h2, h3⟩ := wE (L := fun n i (s : List vC × List zC) => Bk k n m m.length i pa as cu cl pe t B.1 B.2.1 B.2.2.1 B.2.2.2 pr ho m ids to ov 0 0 false s.1 s.2) (N := m.length) (fun s => (pa, as, cu, cl, pe, t, B.1, B.2.1, B.2.2.1, B.2.2.2, pr, ho, m, ids, to, ov, 0, 0, false, s.1, s.2)) (fun i s => s.1 = ((m.take i).filter (wX t)).map (wY 21) ∧ s.2 = (m.take i).filter (fun p => !wX t p)) (fun n s _=>by
  show Bl k _ m m.length m.length pa as cu cl pe t B.1 B.2.1 B.2.2.1 B.2.2.2 pr ho m ids to ov 0 0 false s.1 s.2=_
  unfold Bl
  simp only [qJ, ak (Nat.lt_irrefl _), ao]) (fun n i s hi hs=>by
  have xw:s.1.length≤900:=by
   rw[hs.1,List.length_map]
   have:=List.length_filter_le (wX t) (m.take i)
   rw[List.length_take] at this
   omega
  have mQ:s.2.length≤900:=by
   rw[hs.2]
   have:=List.length_filter_le (fun p=> !wX t p) (m.take i)
   rw[List.length_take] at this
   omega
  show∃s',Bl k _ m m.length i pa as cu cl pe t B.1 B.2.1 B.2.2.1 B.2.2.2 pr ho m ids to ov 0 0 false s.1 s.2=_∧_
  unfold Bl Ps
  have uY:mq k (m.getD i pd).2.1 21 [(m.getD i pd).1]=some (wY 21 (m.getD i pd)):=rfl
  simp only[pd] at uY
  simp only[qG,qJ,aJ,ah hi,an,uY,aj,Ff (show s.1.length≤1000 by omega),rY (show s.2.length≤1000 by omega),qK hi (show m.length<9223372036854775808 by omega)]
  have f1:=EJ (wX t) m i pd hi
  have f2:=EJ (fun p=> !wX t p) m i pd hi
  cases hb:wX t (m.getD i pd) with
  |true=>
   have bh:decide (t>(m.getD i (0,0,0,0,0,0,0)).2.2.2.2.2.2)=true:=hb
   rw[bh]
   refine⟨(s.1++[wY 21 (m.getD i pd)],s.2),rfl,?_,?_⟩
   ·show s.1++_=_
    rw[f1,hb,hs.1]
    simp
   ·show s.2=_
    rw[f2,hb,hs.2]
    simp
  |false=>
   have bh:decide (t>(m.getD i (0,0,0,0,0,0,0)).2.2.2.2.2.2)=false:=hb
   rw[bh]
   refine⟨(s.1,s.2++[m.getD i pd]),rfl,?_,?_⟩
   ·show s.1=_
    rw[f1,hb,hs.1]
    simp
   ·show s.2++_=_
    rw[f2,hb,hs.2]
    simp) (s:=([],[])) (show m.length<k by omega) ⟨rfl,rfl⟩
 have:=h1.trans (by rw[h2,h3,List.take_length])
 exact this
structure yW1 (t cl:Int) (B C:BT) (m m':List zC) (ov:Bool) (o:List vC):Prop where
 bk:qV C
 bl:C.1.length=B.1.length
 sub:List.Sublist m' m
 over:ov=decide (t+1=cl)
 none:ov=true→m'=[]
 late:ov=false→∀p∈m',wX (t+1) p=false
 I4:∀p∈m',gx p o=0
 gv:∀p∈m,p∉m'→gx p o=1
 quiet:∀q:zC,(∀p∈m,p.1≠q.1)→gx q o=0
 room:o.length+2*m'.length≤2*m.length+(if ov=true then 6 else 0)
theorem qO.not_in {l m d:List zC}(hd:qO (d++m)){p}(hp:p∈m):∀q∈d,q.1≠p.1:=fun q hq=>(List.pairwise_append.1 hd).2.2 q hq p hp
structure wS (B C:BT):Prop where
 len:C.1.length=B.1.length
 sum:qH (fun i=>(C.1.getD i ad).1) B.1.length=qH (fun i=>(B.1.getD i ad).1) B.1.length
 cred:∀i,i<B.1.length→(C.1.getD i ad).2.1=(B.1.getD i ad).2.1
 bil:C.2.1=B.2.1
 mul:C.2.2.1=B.2.2.1
 fell:∀i,i<B.1.length→(C.1.getD i ad).1<(B.1.getD i ad).1→0≤(C.1.getD i ad).1+(C.1.getD i ad).2.1
theorem wS.refl B:wS B B:=⟨rfl,rfl,by simp,rfl,rfl,by simp⟩
theorem wS.trans {B C D}(h:wS B C)(g:wS C D):wS B D:=
 ⟨g.len.trans h.len,by have:=g.sum;rw[h.len] at this;exact this.trans h.sum,fun i hi=>(g.cred i (by rw[h.len];exact hi)).trans (h.cred i hi),g.bil.trans h.bil,g.mul.trans h.mul,fun i hi=>by
  have h1:=h.fell i hi
  have h2:=g.fell i (by rw[h.len];exact hi)
  have h3:=g.cred i (by rw[h.len];exact hi)
  omega⟩
theorem qUa i:∀{l},(∀p∈l,0≤p.2.2.2.1)→0≤zL (gB i) l+(zL (gN i) l+zL (gR i) l)
 |[],_=>Int.le_refl _
 |p::l,h=>by
  have h1:=qUa i fun q hq=>h q (List.mem_cons_of_mem _ hq)
  have h2:=h p (by simp)
  have h3:0≤gB i p+(gN i p+gR i p):=by
   unfold gB gN gR
   omega
  show 0≤gB i p+zL (gB i) l+(gN i p+zL (gN i) l+(gR i p+zL (gR i) l))
  omega
theorem vEk {a a' b p p' m l}(x:pt a.length a p l a' p')(hf:zo a b m p l=true)(hl:∀q∈l,yM a.length q){i}(hi:i<a.length):
  (a'.getD i ad).1<(a.getD i ad).1→0≤(a'.getD i ad).1+(a'.getD i ad).2.1:=by
 have h1:=qUa i (l:=l) fun q hq=>by have:=(hl q hq).a1;omega
 unfold zo at hf
 rw[bO] at hf
 have h2:=fK.1 hf.2 i hi
 unfold jl at h2
 rw[x.acct i hi]
 grind
theorem yDr {B}(h:qV B){l}(hf:uO B l=true){r}(hp:nG B.1 B.2.1 B.2.2.1 B.2.2.2 l r):wS B (r.1,r.2.1,r.2.2.1,r.2.2.2.1):=by
 have hs:=(I4 h hp).1
 by_cases c:wB B.1.length l
 ·obtain⟨a',p',x,e⟩:=hp.1 c
  cases hi:jk a' B.2.1 B.2.2.1 p' with
  |false=>rw[hi] at e;subst e;exact wS.refl B
  |true=>
   rw[hi] at e;subst e
   exact⟨x.al,hs,fun i bj=>by show(a'.getD i ad).2.1=_;rw[x.acct i bj],rfl,rfl,fun i bj=>vEk x hf c.1 bj⟩
 ·rw[hp.2 c];exact wS.refl B
theorem qW3 {k}(hk:100<k){B C}(h:qV B){l}(hl:l.length≤80)(hg:gv k B l=some C):wS B C:=by
 obtain⟨r,h1,h3⟩:=Iz hk h hl
 unfold gv at hg
 rw[h1] at hg
 simp only at hg
 cases hc:decide (r.2.2.2.2=0)&&uO B l with
 |false=>simp_all
 |true=>
  rw[hc] at hg
  simp  at hg
  subst hg
  rw[bO] at hc
  exact yDr h hc.2 h3
theorem fj.keptC {k}(hk:100<k){t B C l done m}(h:fj k t B l done C m)(hb:qV B):wS B C:=by
 induction h with
 |stop _=>exact wS.refl _
 |@step B C D l m done p h h' ih=>
  have hg:=(AU h).2
  exact(qW3 hk hb (by simp) hg).trans (ih (sj hk hb (by simp) hg).1)
theorem jP.keptC {k}(hk:100<k){t B C l done m}(h:jP k t B l done C m)(hb:qV B):wS B C:=by
 induction h with
 |stop _=>exact wS.refl _
 |@step B C D l m done p q h h' ih=>
  have hg:=(I9 h).2.2.2
  exact(qW3 hk hb (by simp) hg).trans (ih (sj hk hb (by simp) hg).1)
theorem fj.bk {k}(hk:100<k){t B C l done m}(h:fj k t B l done C m)(hb:qV B):qV C:=by
 induction h with
 |stop _=>exact hb
 |step h h' ih=>exact ih (sj hk hb (by simp) (AU h).2).1
theorem jP.bk {k}(hk:100<k){t B C l done m}(h:jP k t B l done C m)(hb:qV B):qV C:=by
 induction h with
 |stop _=>exact hb
 |step h h' ih=>exact ih (sj hk hb (by simp) (I9 h).2.2.2).1
theorem kA.keptC {k}(hk:100<k){t B C l done m}(h:kA k t B l done C m)(hb:qV B):wS B C:=by
 induction h with
 |stop h1 _=>exact h1.keptC hk hb
 |step h1 h2 ne h' ih=>
  have b1:=h1.bk hk hb
  exact((h1.keptC hk hb).trans (h2.keptC hk b1)).trans (ih (h2.bk hk b1))
theorem vCd {k}(hk:200≤k){B}(hb:qV B){l:List zC}(hl:∀q∈l,yM B.1.length q)(cy:l.length≤64) t {C:BT}{m done:List zC}(hr:Bd k B.1 B.2.1 B.2.2.1 B.2.2.2 l t=some (C.1,C.2.1,C.2.2.1,C.2.2.2,m,done)):wS B C:=by
 obtain⟨f,n,h,hn⟩:=qS1 hb hl cy t
 have xC:=E7 l t
 have cS:=A2 (vZ l t) f
 have hhl:=cS.length_le
 obtain⟨r,h1,h3⟩:=Iz (k:=k) (by omega) hb (l:=vY (vZ l t) f) (by omega)
 have g1:=yHt (k:=k) (by omega) hb hl cy t (by omega) h h1
 unfold Jd at g1
 rw[g1] at hr
 cases c:decide (r.2.2.2.2=0) with
 |false=>
  rw[c] at hr
  simp  at hr
  obtain⟨e1,e2,e3,e4,_⟩:=hr
  have:B=C:=by grind
  rw[←this]
  exact wS.refl B
 |true=>
  have:(r.1,r.2.1,r.2.2.1,r.2.2.2.1)=C:=by grind
  rw[←this]
  refine yDr hb ?_ h3
  have hw:=Pj (Jc (t:=t) hl) (by omega) f
  have hs:=yYu.1 h.final
  unfold uO zo
  rw[zi.2 hw.1,ah hw.2]
  simp
  rw[fK]
  intro j hj
  have:=hs j hj
  unfold pC at this
  simp_all
theorem yM6 {C D:BT}{m n d e:List zC}(h:(C.1,C.2.1,C.2.2.1,C.2.2.2,m,d)=(D.1,D.2.1,D.2.2.1,D.2.2.2,n,e)):C=D∧m=n∧d=e:=by
 grind
theorem yJq {k}(hk:200≤k){B}(hb:qV B){l}(hd:qO l)(hl:∀q∈l,yM B.1.length q)(cy:l.length≤64) t all {X:BT}{mx dx:List zC}
  (hr:uU k B.1 B.2.1 B.2.2.1 B.2.2.2 l t all=some (X.1,X.2.1,X.2.2.1,X.2.2.2,mx,dx)):wS B X:=by
 obtain⟨C,m,d,f1,f2,f3,f4,f5⟩:=Jh hk hb hd (by omega) t
 have q1:=f2.keptC (by omega) hb
 have p1:=f2.perm hd
 have l1:=p1.length_eq
 rw[List.length_append] at l1
 unfold uU at hr
 rw[f1] at hr
 simp only[aj] at hr
 cases all with
 |false=>
  grind
 |true=>
  have hm:qO m:=List.Pairwise.sublist f5 hd
  have He:∀q∈m,yM C.1.length q:=fun q hq=>by grind
  obtain⟨D,n,x,g1,g2,g3,g4,g5,g6⟩:=yHr hk f3 hm He (by omega) t
  have q2:=vCd hk f3 He (by omega) t g1
  have l2:=g5.length_eq
  rw[List.length_append] at l2
  rw[g1] at hr
  simp only[aj] at hr
  cases x with
  |nil=>
   grind
  |cons p x=>
   have e1:decide ((((p::x).length:Nat):Int)=0)=false:=by grind
   rw[e1] at hr
   simp only[ao] at hr
   have hn:qO n:=List.Pairwise.sublist g4 hm
   obtain⟨E,o,y,k1,k2,k3,k4,k5⟩:=Jh hk g2 hn (by omega) t
   have q3:=k2.keptC (by omega) g2
   have p3:=k2.perm hn
   have l3:=p3.length_eq
   rw[List.length_append] at l3
   have r1:zY (d.length+(p::x).length) 56=true:=by grind
   have r2:zY ((d++(p::x)).length+y.length) 56=true:=by grind
   rw[k1] at hr
   simp only[aj,r1,r2,an] at hr
   have mU:some (E.1,E.2.1,E.2.2.1,E.2.2.2,o,d++(p::x)++y)=some (X.1,X.2.1,X.2.2.1,X.2.2.2,mx,dx):=hr
   rw[←(yM6 (Option.some.inj mU)).1]
   exact(q1.trans q2).trans q3
end Go.Ab.Gi
