/- Plain proofs, part 0. -/
import Derived.Test.YtbejmoaalcabdaaGreatGiAbC
import Derived.Test.YtbejmoaalcabdaaGreatGiXS
set_option linter.unusedVariables false
set_option linter.unusedSimpArgs false
set_option linter.unusedSectionVars false
set_option maxRecDepth 100000
namespace Go.Ab
theorem aa {p:Prop}[Decidable p](h:p):decide p=true:=decide_eq_true h
theorem ab {p:Prop}[Decidable p](h:¬p):decide p=false:=decide_eq_false h
theorem sC {p:Prop}[Decidable p](h:decide p=true):p:=of_decide_eq_true h
theorem di {p:Prop}[Decidable p](h:decide p=false):¬p:=of_decide_eq_false h
theorem aN {p:Prop}[Decidable p]:(decide p=true)=p:=decide_eq_true_eq
theorem ae {α β:Type}(a:α)(f:α→Option β):(some a).bind f=f a:=rfl
theorem ai {α:Type}(a b:α):cond true a b=a:=rfl
theorem aj {α:Type}(a b:α):cond false a b=b:=rfl
theorem aq (n:Nat):(n:Int).toNat=n:=rfl
theorem aR (a b:Bool):((a&&b)=true)=(a=true∧b=true):=Bool.and_eq_true a b
theorem ay:(!true)=false:=rfl
theorem bx:(!false)=true:=rfl
end Go.Ab
namespace Go.Ab
theorem zQ {x:Int}(h1:-9223372036854775808≤x)(h2:x<9223372036854775808):zA x=x:=by
 unfold zA IntKind.wrap
 simp only[IntKind.bits,IntKind.signed,Bool.true_and]
 by_cases h:x%2^64≥2^(64-1)
 ·rw[if_pos (by simpa using h)];omega
 ·rw[if_neg (by simpa using h)];omega
theorem qK {i N:Nat}(h:i<N)(hN:N<9223372036854775808):zA ((i:Int)+1)=((i+1:Nat):Int):=by
 rw[zQ (by omega) (by omega)];rfl
theorem qG (i n:Nat):zC (i:Int) n=decide (i<n):=by
 unfold zC
 simp
theorem iM {i:Int}{n:Nat}(h0:0≤i)(h1:i<n):zC i n=true:=by
 unfold zC
 simp;omega
theorem qT {n b:Nat}(h:n*b≤140737488355328)(h':n≤140737488355328):zO n b=true:=by
 unfold zO
 rw[Nat.ble_eq_true_of_le h,Nat.ble_eq_true_of_le h'];rfl
theorem qB (i n:Nat):decide ((i:Int)<(n:Int))=decide (i<n):=by simp
theorem qa (i n:Nat):decide ((i:Int)=(n:Int))=decide (i=n):=by
 by_cases h:i=n
 ·subst h;simp
 ·rw[ab h,ab (by omega)]
def qH (p:Nat→Bool):Nat→Nat→Bool
 |0,_=>true
 |c+1,i=>p i&&qH p c (i+1)
theorem yVr {p:Nat→Bool}:∀{c i:Nat},qH p c i=true↔∀j,i≤j→j<i+c→p j=true
 |0,i=>by simp[qH];intro j h1 h2;omega
 |c+1,i=>by
  simp only[qH,aR,yVr (c:=c)]
  constructor
  ·rintro⟨h1,h2⟩ j h3 h4
   by_cases e:j=i
   ·subst e;exact h1
   ·exact h2 j (by omega) (by omega)
  ·intro h
   exact⟨h i (Nat.le_refl i) (by omega),fun j h1 h2=>h j (by omega) (by omega)⟩
theorem fZ {p:Nat→Bool}{c:Nat}:qH p c 0=true↔∀j,j<c→p j=true:=by
 rw[yVr]
 exact⟨fun h j hj=>h j (Nat.zero_le j) (by omega),fun h j _ hj=>h j (by omega)⟩
theorem SZ {X:Type}{L:Nat→Int→Option X}{N:Nat}(ok:Nat→Bool)(a b:X)(bF:∀n,L (n+1) (N:Int)=some a)
  (aM:∀n i,i<N→L (n+1) (i:Int)=bif ok i then L n ((i+1:Nat):Int) else some b):∀c i n,i+c=N→c<n→L n (i:Int)=some (bif qH ok c i then a else b)
 |0,i,n,h,hn=>by
  obtain⟨n,rfl⟩:∃m,n=m+1:=⟨n-1,by omega⟩
  have:i=N:=by omega
  subst this
  exact bF n
 |c+1,i,n,h,hn=>by
  obtain⟨n,rfl⟩:∃m,n=m+1:=⟨n-1,by omega⟩
  rw[aM n i (by omega)]
  unfold qH
  cases ok i with
  |false=>rfl
  |true=>
   simp only[ai,Bool.true_and]
   exact SZ ok a b bF aM c (i+1) n (by omega) (by omega)
theorem lN {X:Type}{L:Nat→Int→Option X}{N:Nat}(ok:Nat→Bool)(a b:X)(bF:∀n,L (n+1) (N:Int)=some a)
  (aM:∀n i,i<N→L (n+1) (i:Int)=bif ok i then L n ((i+1:Nat):Int) else some b) {n:Nat} (hn:N<n):L n 0=some (bif qH ok N 0 then a else b):=
 SZ ok a b bF aM N 0 n (by omega) hn
theorem yNf {L:Nat→Int→Option (Unit⊕Int)}{N:Nat}(bad:Nat→Bool)(bF:∀n,L (n+1) (N:Int)=some (.inl ()))
  (aM:∀n i,i<N→L (n+1) (i:Int)=bif bad i then some (.inr (i:Int)) else L n ((i+1:Nat):Int)):
  ∀c i n,i+c=N→c<n→(qH (fun j=> !bad j) c i=true∧L n (i:Int)=some (.inl ()))∨∃x:Nat,i≤x∧x<N∧bad x=true∧(∀j,i≤j→j<x→bad j=false)∧qH (fun j=> !bad j) c i=false∧L n (i:Int)=some (.inr (x:Int))
 |0,i,n,h,hn=>by
  obtain⟨n,rfl⟩:∃m,n=m+1:=⟨n-1,by omega⟩
  have:i=N:=by omega
  subst this
  exact .inl ⟨rfl,bF n⟩
 |c+1,i,n,h,hn=>by
  obtain⟨n,rfl⟩:∃m,n=m+1:=⟨n-1,by omega⟩
  rw[aM n i (by omega)]
  unfold qH
  cases hb:bad i with
  |true=>exact .inr ⟨i,Nat.le_refl i,by omega,hb,fun j h1 h2=>absurd h1 (by omega),rfl,rfl⟩
  |false=>
   simp only[aj,bx,Bool.true_and]
   rcases yNf bad bF aM c (i+1) n (by omega) (by omega) with h1|⟨x,x1,x2,x3,x4,x5,x6⟩
   ·exact .inl h1
   ·refine .inr ⟨x,by omega,x2,x3,fun j h1 h2=>?_,x5,x6⟩
    by_cases e:j=i
    ·subst e;exact hb
    ·exact x4 j (by omega) h2
theorem uI {L:Nat→Int→Option (Unit⊕Int)}{N:Nat}(bad:Nat→Bool)(bF:∀n,L (n+1) (N:Int)=some (.inl ()))
  (aM:∀n i,i<N→L (n+1) (i:Int)=bif bad i then some (.inr (i:Int)) else L n ((i+1:Nat):Int)) {n:Nat} (hn:N<n):
  ∃x:Unit⊕Int,L n 0=some x∧decide ((match x with|.inl _=>(-1:Int)|.inr y=>y)≥0)= !qH (fun j=> !bad j) N 0:=by
 rcases yNf bad bF aM N 0 n (by omega) hn with⟨h1,h2⟩|⟨x,_,_,_,_,h5,h6⟩
 ·exact⟨_,h2,by rw[h1];rfl⟩
 ·exact⟨_,h6,by rw[h5];simp⟩
theorem yHj {S X:Type}{L:Nat→Int→S→Option X}{N:Nat}(e:S→X)(inv:Nat→S→Prop)(bF:∀n s,inv N s→L (n+1) (N:Int) s=some (e s))
  (aM:∀n i s,i<N→inv i s→∃s',L (n+1) (i:Int) s=L n ((i+1:Nat):Int) s'∧inv (i+1) s'):
  ∀c i n s,i+c=N→c<n→inv i s→∃s',L n (i:Int) s=some (e s')∧inv N s'
 |0,i,n,s,h,hn,hs=>by
  obtain⟨n,rfl⟩:∃m,n=m+1:=⟨n-1,by omega⟩
  have:i=N:=by omega
  subst this
  exact⟨s,bF n s hs,hs⟩
 |c+1,i,n,s,h,hn,hs=>by
  obtain⟨n,rfl⟩:∃m,n=m+1:=⟨n-1,by omega⟩
  obtain⟨s',h1,h2⟩:=aM n i s (by omega) hs
  rw[h1]
  exact yHj e inv bF aM c (i+1) n s' (by omega) (by omega) h2
theorem vC {S X:Type}{L:Nat→Int→S→Option X}{N:Nat}(e:S→X)(inv:Nat→S→Prop)(bF:∀n s,inv N s→L (n+1) (N:Int) s=some (e s))
  (aM:∀n i s,i<N→inv i s→∃s',L (n+1) (i:Int) s=L n ((i+1:Nat):Int) s'∧inv (i+1) s') {n:Nat} {s:S} (hn:N<n) (hs:inv 0 s):
  ∃s',L n 0 s=some (e s')∧inv N s':=yHj e inv bF aM N 0 n s (by omega) hn hs
def zP {α:Type}(g:α→Int):List α→Int
 |[]=>0
 |p::l=>g p+zP g l
theorem la {α:Type}(g:α→Int):∀(l m:List α),zP g (l++m)=zP g l+zP g m
 |[],m=>by simp[zP]
 |p::l,m=>by
  show g p+zP g (l++m)=g p+zP g l+zP g m
  rw[la g l m];omega
theorem Ch {α:Type}{g:α→Int}{A:Int}:∀{l:List α},(∀p∈l,-A≤g p∧g p≤A)→-(l.length*A)≤zP g l∧zP g l≤l.length*A
 |[],_=>by simp[zP]
 |p::l,h=>by
  have h1:=h p (List.mem_cons_self ..)
  have h2:=Ch (l:=l) fun q hq=>h q (List.mem_cons_of_mem _ hq)
  have e:((p::l).length:Int)*A=(l.length:Int)*A+A:=by
   rw[List.length_cons,Int.natCast_add,Int.add_mul];simp
  rw[e]
  show-_≤g p+zP g l∧g p+zP g l≤_
  omega
theorem uJ {α:Type}{g:α→Int}:∀{l:List α},(∀p∈l,0≤g p)→0≤zP g l
 |[],_=>by simp[zP]
 |p::l,h=>by
  have h1:=h p (List.mem_cons_self ..)
  have h2:=uJ (l:=l) fun q hq=>h q (List.mem_cons_of_mem _ hq)
  show 0≤g p+zP g l
  omega
theorem yAr {α:Type}(g h:α→Int):∀(l:List α),zP (fun p=>g p+h p) l=zP g l+zP h l
 |[]=>rfl
 |p::l=>by
  show g p+h p+zP _ l=g p+zP g l+(h p+zP h l)
  rw[yAr g h l];omega
theorem S0 {α:Type}(g h:α→Int):∀(l:List α),zP (fun p=>g p-h p) l=zP g l-zP h l
 |[]=>rfl
 |p::l=>by
  show g p-h p+zP _ l=g p+zP g l-(h p+zP h l)
  rw[S0 g h l];omega
theorem Ly {α:Type}{g h:α→Int}:∀{l:List α},(∀p∈l,g p=h p)→zP g l=zP h l
 |[],_=>rfl
 |p::l,e=>by
  show g p+zP g l=h p+zP h l
  rw[e p (List.mem_cons_self ..),Ly fun q hq=>e q (List.mem_cons_of_mem _ hq)]
def qJ (g:Nat→Int):Nat→Int
 |0=>0
 |n+1=>qJ g n+g n
theorem Ck (g h:Nat→Int):∀n,qJ (fun j=>g j+h j) n=qJ g n+qJ h n
 |0=>rfl
 |n+1=>by
  show qJ _ n+(g n+h n)=qJ g n+g n+(qJ h n+h n)
  rw[Ck g h n];omega
theorem oB {g h:Nat→Int}:∀{n:Nat},(∀j,j<n→g j=h j)→qJ g n=qJ h n
 |0,_=>rfl
 |n+1,e=>by
  show qJ g n+g n=qJ h n+h n
  rw[oB fun j hj=>e j (by omega),e n (Nat.lt_succ_self n)]
theorem yi (c:Int)(t:Nat):∀n,qJ (fun j=>if j=t then c else 0) n=if t<n then c else 0
 |0=>rfl
 |n+1=>by
  show qJ _ n+(if n=t then c else 0)=_
  rw[yi c t n]
  by_cases h:t<n
  ·rw[if_pos h,if_neg (by omega),if_pos (by omega)];omega
  ·by_cases h':n=t
   ·rw[if_neg h,if_pos h',if_pos (by omega)];omega
   ·rw[if_neg h,if_neg h',if_neg (by omega)];omega
theorem S1:∀n,qJ (fun _=>0) n=0
 |0=>rfl
 |n+1=>by show qJ _ n+0=0;rw[S1 n];rfl
theorem uK {g:Nat→Int}{A:Int}(h:∀j,-A≤g j∧g j≤A):∀n:Nat,-(n*A)≤qJ g n∧qJ g n≤n*A
 |0=>by simp[qJ]
 |n+1=>by
  have h1:=h n
  have h2:=uK h n
  have e:((n+1:Nat):Int)*A=(n:Int)*A+A:=by
   rw[Int.natCast_add,Int.add_mul];simp
  rw[e]
  show-_≤qJ g n+g n∧qJ g n+g n≤_
  omega
theorem LA {α:Type}(g:Nat→α→Int)(n:Nat):∀l:List α,qJ (fun j=>zP (g j) l) n=zP (fun p=>qJ (fun j=>g j p) n) l
 |[]=>S1 n
 |p::l=>by
  show qJ (fun j=>g j p+zP (g j) l) n=qJ (fun j=>g j p) n+zP _ l
  rw[Ck,LA g n l]
theorem jV {α:Type}{l:List α}{i:Nat}{d:α}(h:i<l.length):l.getD i d∈l:=by
 rw[List.getD_eq_getElem?_getD,List.getElem?_eq_getElem h]
 exact List.getElem_mem h
theorem fL {α:Type}(l:List α)(i:Nat)(d:α)(h:i<l.length):l.take i++[l.getD i d]=l.take (i+1):=by
 rw[List.take_add_one,List.getD_eq_getElem?_getD,List.getElem?_eq_getElem h]
 rfl
theorem jM {α:Type}(l:List α)(i j:Nat)(a d:α):(l.set i a).getD j d=if i=j∧i<l.length then a else l.getD j d:=by
 rw[List.getD_eq_getElem?_getD,List.getD_eq_getElem?_getD,List.getElem?_set]
 by_cases h:i=j
 ·subst h
  by_cases h':i<l.length<;>simp[h']
 ·simp[h]
theorem Cl {α:Type}{l m:List α}(d:α)(hl:l.length=m.length)(h:∀i,i<l.length→l.getD i d=m.getD i d):l=m:=by
 apply List.ext_getElem hl
 intro i h1 h2
 have:=h i h1
 rwa [List.getD_eq_getElem?_getD,List.getD_eq_getElem?_getD,List.getElem?_eq_getElem h1,List.getElem?_eq_getElem h2] at this
theorem vK0 (m:Nat)(hm:m≤62)(x:Int):yJ .i64 x (2^m-1)=x%2^m:=by
 unfold yJ rC
 have hp:(2:Int)^m=((2^m:Nat):Int):=by norm_cast
 have hle:2^m≤2^62:=Nat.pow_le_pow_right (by omega) hm
 have oC:0<2^m:=Nat.two_pow_pos m
 have h62:(2:Nat)^62=4611686018427387904:=rfl
 have e1:(BitVec.ofInt IntKind.i64.bits x&&&BitVec.ofInt IntKind.i64.bits (2^m-1)).toNat=(x%2^m).toNat:=by
  rw[BitVec.toNat_and,BitVec.toNat_ofInt,BitVec.toNat_ofInt]
  have e2:((2:Int)^m-1)%((2^IntKind.i64.bits:Nat):Int)=((2^m-1:Nat):Int):=by
   rw[hp]
   have:((2^m:Nat):Int)-1=((2^m-1:Nat):Int):=by omega
   rw[this]
   apply Int.emod_eq_of_lt (by omega)
   show((2^m-1:Nat):Int)<((2^64:Nat):Int)
   have:(2:Nat)^64=18446744073709551616:=rfl
   omega
  rw[e2,aq,Nat.and_two_pow_sub_one_eq_mod]
  have hx:0≤x%((2^IntKind.i64.bits:Nat):Int):=Int.emod_nonneg _ (by show((2^64:Nat):Int)≠0;decide)
  have e3:x%2^m=(x%((2^IntKind.i64.bits:Nat):Int))%((2^m:Nat):Int):=by
   rw[hp,Int.emod_emod_of_dvd]
   show((2^m:Nat):Int)∣((2^64:Nat):Int)
   exact Int.natCast_dvd_natCast.2 (Nat.pow_dvd_pow 2 (by omega))
  rw[e3]
  generalize x%((2^IntKind.i64.bits:Nat):Int)=y at hx
  obtain⟨y,rfl⟩:=Int.eq_ofNat_of_zero_le hx
  rw[aq,←Int.natCast_emod,aq]
 rw[e1]
 have h0:0≤x%2^m:=Int.emod_nonneg _ (by omega)
 have h1:x%2^m<2^m:=Int.emod_lt_of_pos _ (by omega)
 rw[Int.toNat_of_nonneg h0]
 exact zQ (by omega) (by omega)
end Go.Ab
namespace Go.Ab.Gi
open Go.Ab
def yj (s c:Int):Int:=wO .u64 (shl .u64 s 8) (IntKind.wrap .u64 c)
def vO9 (b:AC):Int:=zA (b.foldl yj 0)
def Ht:Nat→AC→AC
 |0,_=>[]
 |m+1,b=>vO9 (b.take 8)::Ht m (b.drop 8)
theorem vTr {x:AC}{i:Nat}(h:i<x.length)(s:Int):(x.take (i+1)).foldl yj s=yj ((x.take i).foldl yj s) (x.getD i 0):=by
 rw[←fL x i 0 h,List.foldl_append];rfl
theorem vQi {k:Nat}(hk:9≤k)(s0 x r0:AC)(hx:x.length=8):Cm k k s0 0 x 8 0 r0=some (s0,x.foldl yj 0,r0):=by
 obtain ⟨s, h1, h2⟩ := vC (L := fun n i (s : Int) => Cm k n s0 s x 8 i r0) (N := 8) (fun s => (s0, s, r0)) (fun i s => s = (x.take i).foldl yj 0) (fun n s _ => rfl) (fun n i s hi hs=>by
  refine⟨yj s (x.getD i 0),?_,by rw[vTr (by omega),hs]⟩
  show LB k (Cm k n) s0 s x 8 (i:Int) r0=_
  unfold LB
  rw[aa (show(i:Int)<8 by omega),ai,iM (by omega) (by omega),ai,qK (N:=8) hi (by omega),aq]
  rfl) (n:=k) (s:=0) (by omega) rfl
 rw[List.take_of_length_le (by omega)] at h2
 subst h2
 exact h1
theorem yQn {k:Nat}(hk:9≤k):∀(m n:Nat) (b r:AC),b.length=8*m→m<n→r.length+m≤17592186044416→Cn k n b r=some (r++Ht m b)
 |0,n,b,r,hb,hn,_=>by
  obtain⟨n,rfl⟩:∃x,n=x+1:=⟨n-1,by omega⟩
  show Co k (Cn k n) b r=_
  unfold Co
  rw[ab (by omega),aj]
  simp[Ht]
 |m+1,n,b,r,hb,hn,hr=>by
  obtain⟨n,rfl⟩:∃x,n=x+1:=⟨n-1,by omega⟩
  show Co k (Cn k n) b r=_
  unfold Co
  have ht:(b.take 8).length=8:=by rw[List.length_take];omega
  have e8:((b.take 8).length:Int)=8:=by rw[ht];rfl
  rw[aa (show(b.length:Int)>0 by omega),ai,aa (show(8:Int)≤(b.length:Int) by omega),ai,e8,vQi hk _ _ _ ht,ae]
  dsimp only
  rw[qT (by omega) (by omega),ai,aa (show(8:Int)≤(b.length:Int) by omega),ai]
  rw[yQn hk m n _ _ (by rw[List.length_drop];omega) (by omega) (by simp;omega)]
  show some ((r++[zA _])++Ht m (b.drop 8))=_
  rw[List.append_assoc]
  rfl
theorem vN7 (n:Nat):Int.tmod (n:Int) 8=((n%8:Nat):Int):=rfl
def nz (b:AC):AC×Int:=if b.length%8=0 then(Ht (b.length/8) b,0) else([],2)
theorem vVp {k:Nat}{b:AC}(hk:9≤k)(hb:b.length<8*k)(bB:b.length≤140737488355328):sD k b=some (nz b):=by
 unfold sD nz
 rw[vN7]
 by_cases h:b.length%8=0
 ·rw[if_pos h,aa (by omega),yQn hk (b.length/8) k b [] (by omega) (by omega) (by simp;omega)]
  rfl
 ·rw[if_neg h,ab (by omega)]
  rfl
def yQv:AC:=[(-1),6,1,2,2,2,1,1,2,0,2,2,2,0,0,0,1,5,4,1,1,1,1,1]
def jw (x:Int):Int:=if 0≤x∧x<24 then yQv.getD x.toNat 0 else-1
theorem vBu (k:Nat)(x:Int):Cp k x=some (jw x):=by
 unfold Cp jw
 by_cases h:x<0
 ·rw[aa h,if_neg (by omega)];rfl
 ·rw[ab h,aj]
  by_cases h2:x≥24
  ·rw[aa h2,if_neg (by omega)];rfl
  ·rw[ab h2,aj,iM (by omega) (by omega),ai,if_pos (by omega)]
   rfl
theorem vR0 (k:Nat)(x:Int):sE k x=some (jw x):=by
 by_cases h:0≤x∧x<24
 ·obtain⟨n,rfl⟩:∃n:Nat,x=n:=⟨x.toNat,by omega⟩
  have hn:n<24:=by omega
  have:∀n:Nat,n<24→sE 0 (n:Int)=some (jw (n:Int)):=by decide
  exact this n hn
 ·have e:jw x= -1:=by unfold jw;rw[if_neg h]
  rw[e]
  unfold sE
  have ne:∀c:Int,0≤c→c<24→decide (x=c)=false:=fun c h1 h2=>ab (by omega)
  rw[ne 9 (by omega) (by omega),ne 13 (by omega) (by omega),ne 14 (by omega) (by omega),ne 15 (by omega) (by omega),ne 2 (by omega) (by omega),ne 6 (by omega) (by omega),ne 7 (by omega) (by omega),ne 16 (by omega) (by omega),
   ne 19 (by omega) (by omega),ne 20 (by omega) (by omega),ne 21 (by omega) (by omega),ne 22 (by omega) (by omega),ne 23 (by omega) (by omega),ne 3 (by omega) (by omega),ne 4 (by omega) (by omega),ne 5 (by omega) (by omega),ne 8 (by omega) (by omega),
   ne 10 (by omega) (by omega),ne 11 (by omega) (by omega),ne 12 (by omega) (by omega),ne 18 (by omega) (by omega),ne 17 (by omega) (by omega),ne 1 (by omega) (by omega)]
  rfl
abbrev yk:Type:=Int×Int×Int×Int×Int×Int×Int
def yRc (b:AC):yk×Int:=
 if b=[] then((0,0,0,0,0,0,0),2)
 else if(nz (b.drop 1)).2≠0∨((nz (b.drop 1)).1.length:Int)≠jw (zA (b.getD 0 0)) then((0,0,0,0,0,0,0),2)
 else((zA (b.getD 0 0),(nz (b.drop 1)).1.getD 0 0,(nz (b.drop 1)).1.getD 1 0,(nz (b.drop 1)).1.getD 2 0,(nz (b.drop 1)).1.getD 3 0,(nz (b.drop 1)).1.getD 4 0,(nz (b.drop 1)).1.getD 5 0),0)
theorem vWn (l:AC)(i:Nat):(bif Nat.blt i l.length then l.getD i 0 else 0)=l.getD i 0:=by
 by_cases h:i<l.length
 ·rw[show Nat.blt i l.length=true by simp[Nat.blt_eq,h]];rfl
 ·rw[show Nat.blt i l.length=false by
   cases e:Nat.blt i l.length with
   |false=>rfl
   |true=>rw[Nat.blt_eq] at e;omega]
  rw[List.getD_eq_getElem?_getD,List.getElem?_eq_none (by omega)];rfl
theorem vTp {k:Nat}{b:AC}(hk:9≤k)(hb:b.length≤8*k)(bB:b.length≤140737488355328):nA k b=some (yRc b):=by
 unfold nA yRc
 cases b with
 |nil=>rfl
 |cons c l=>
  rw[if_neg (by simp)]
  have e0:((c::l).length:Int)=(l.length:Int)+1:=by simp
  rw[ab (by omega),aj,aa (show(1:Int)≤((c::l).length:Int) by omega),ai,vVp hk (by simp at hb⊢;omega) (by simp at bB⊢;omega),ae]
  by_cases h:(nz (List.drop 1 (c::l))).2=0
  ·rw[aa h,iM (by omega) (by simp),vR0]
   simp only[ay,aj,ai,ae]
   by_cases h2:((nz (List.drop 1 (c::l))).1.length:Int)=jw (zA ((c::l).getD 0 0))
   ·rw[aa h2,if_neg (fun hh=>hh.elim (fun e=>e h) fun e=>e h2)]
    simp only[ay,aj,vWn]
   ·rw[ab h2,if_pos (.inr h2)]
    rfl
  ·rw[ab h,if_pos (.inl h)]
   rfl
theorem yQj (x:Int):jw x≤6:=by
 unfold jw
 split
 ·rename_i h
  obtain⟨n,rfl⟩:∃n:Nat,x=n:=⟨x.toNat,by omega⟩
  have:∀n:Nat,n<24→yQv.getD n 0≤6:=by decide
  exact this n (by omega)
 ·omega
abbrev lO:Type:=Int×Int×Int×Int×Int×Int×Int×Int
abbrev Cq:Type:=Int×Int×AC×Int×Int
abbrev kq:Type:=Int×AC×Int×AC×Int×Int×Int×Bool×Bool×Int
abbrev qb:Type:=Int×Int×Int×Bool
abbrev S2:Type:=Int×List (Int×Int)×Int×Int×Int
abbrev LC:Type:=Int×List (Int×Int×Int)×EQ×AC×EQ×AC×EQ×List (Int×Int×Int×Int×Int×Int×Int)×AC×Int×Bool
abbrev sF:Type:=Int×List (Int×Int)×Int×Int×Int×Int×List (Int×Int×Int)×EQ×AC×EQ×AC×EQ×List (Int×Int×Int×Int×Int×Int×Int)×AC×Int×Bool×Int×Bool
abbrev LD:Type:=Int×Int×Bool×Bool
def d0:Cq:=(0,0,[],0,0)
def zI (ev:Int)(bG:List Cq)(n i:Int)(R:S2)(c:LD)(D:kq)(G:sF)(L:qb)(c2:LD)(outs:List (List lO))(asked:List lO):=
 (ev,bG,n,i,R,c,((D.1,D.2.2.1,D.2.2.2.2):Int×Int×Int×Int×Int×Bool×Bool×Int),D.2.1,D.2.2.2.1,G,L,c2,outs,asked)
section
variable {k:Nat} {rec:Hu} {ev n i:Int} {bG:List Cq} {R:S2} {c c2:LD} {D:kq} {G:sF} {L:qb} {outs:List (List lO)} {asked:List lO}
theorem LF (h:outs.length≤1000000):zO (outs.length+1) 24=true:=qT (by omega) (by omega)
theorem vFr (hi:¬i<n):yl k rec (.inl (zI ev bG n i R c D G L c2 outs asked))=some (.inr (c,G,L,(D.1,D.2.2.1,D.2.2.2.2),D.2.1,D.2.2.2.1,c2,outs,asked)):=by
 unfold yl
 dsimp only[zI]
 grind
end
abbrev jx (ro:Int)(x:AC)(sx:Int)(y:AC)(sy cA cK op:Int):kq:=(ro,x,sx,y,sy,cA,cK,false,false,op)
section
variable {k:Nat} {ro sx sy cA cK op:Int} {x y b:AC}
theorem yIe (h:(b.length:Int)≤zA (ro-(x.length:Int)))(hr:x.length+b.length≤1000000):sG k (jx ro x sx y sy cA cK op) 0 b=some (0,jx ro (x++b) sx y sy cA cK (zA (op+1))):=by
 show(bif decide ((b.length:Int)>zA (ro-(x.length:Int))) then _ else(bif zO (x.length+b.length) 1 then _ else none))=_
 rw[ab (by omega),aj,qT (by omega) (by omega)]
 rfl
theorem vI6 (h:(b.length:Int)>zA (ro-(x.length:Int))):sG k (jx ro x sx y sy cA cK op) 0 b=some (3,jx ro x sx y sy cA cK op):=by
 show(bif decide ((b.length:Int)>zA (ro-(x.length:Int))) then _ else _)=_
 simp_all
theorem vA1 (h:(b.length:Int)≤zA (ro-(y.length:Int)))(hr:y.length+b.length≤1000000):sG k (jx ro x sx y sy cA cK op) 1 b=some (0,jx ro x sx (y++b) sy cA cK (zA (op+1))):=by
 show(bif decide ((b.length:Int)>zA (ro-(y.length:Int))) then _ else(bif zO (y.length+b.length) 1 then _ else none))=_
 rw[ab (by omega),aj,qT (by omega) (by omega)]
 rfl
theorem vNh (h:(b.length:Int)>zA (ro-(y.length:Int))):sG k (jx ro x sx y sy cA cK op) 1 b=some (3,jx ro x sx y sy cA cK op):=by
 show(bif decide ((b.length:Int)>zA (ro-(y.length:Int))) then _ else _)=_
 simp_all
theorem vW1:LG k (jx ro x sx y sy cA cK op) 0=some (0,jx ro [] 0 y sy cA cK (zA (op+1))):=rfl
theorem S3:LG k (jx ro x sx y sy cA cK op) 1=some (0,jx ro x sx [] 0 cA cK (zA (op+1))):=rfl
theorem S4:Hv k (jx ro x sx y sy cA cK op)=some (0,jx ro x (x.length:Int) y (y.length:Int) cA cK (zA (op+1))):=rfl
end
def vR (n:Int)(i:Nat):Int:=IntKind.wrap .u8 (shr .i64 n (8*(i:Int)))
def qc (n:Int):AC:=[vR n 7,vR n 6,vR n 5,vR n 4,vR n 3,vR n 2,vR n 1,vR n 0]
def nB (l:AC):AC:=l.flatMap qc
theorem sH:∀l,(nB l).length=8*l.length
 |[]=>rfl
 |n::l=>by
  have:=sH l
  simp[nB] at this⊢
  rw[this]
  simp[qc]
  omega
theorem S5 {k n} v (i:Nat)(hi:i≤7) aP bR bo r (hr:r.length≤1000000000):
  uL k (n+1) v (i:Int) aP bR bo r=uL k n v ((i:Int)-1) aP bR bo (r++[vR v i]):=by
 show LH k (uL k n) v (i:Int) aP bR bo r=_
 unfold LH
 have e8:zA (8*(i:Int))=8*(i:Int):=zQ (by omega) (by omega)
 rw[aa (by simp),ai,e8,ab (by omega),bx,ai,qT (by omega) (by omega),ai,zQ (by omega) (by omega)]
 rfl
theorem vKc {k}(hk:9≤k) v aP bR bo r (hr:r.length≤100000000):
  uL k k v 7 aP bR bo r=some (aP,bR,bo,r++qc v):=by
 have gen:∀m,uL k (m+9) v 7 aP bR bo r=some (aP,bR,bo,r++qc v):=fun m=>by
  have h:=fun n i hi r' nh=>S5 (k:=k) (n:=n) v i hi aP bR bo r' nh
  have h7:=h (m+8) 7 (by omega) r (by omega)
  have h6:=h (m+7) 6 (by omega) (r++[vR v 7]) (by grind)
  have h5:=h (m+6) 5 (by omega) ((r++[vR v 7])++[vR v 6]) (by grind)
  have h4:=h (m+5) 4 (by omega) (((r++[vR v 7])++[vR v 6])++[vR v 5]) (by grind)
  have h3:=h (m+4) 3 (by omega) ((((r++[vR v 7])++[vR v 6])++[vR v 5])++[vR v 4]) (by grind)
  have h2:=h (m+3) 2 (by omega) (((((r++[vR v 7])++[vR v 6])++[vR v 5])++[vR v 4])++[vR v 3]) (by grind)
  have h1:=h (m+2) 1 (by omega) ((((((r++[vR v 7])++[vR v 6])++[vR v 5])++[vR v 4])++[vR v 3])++[vR v 2]) (by simp;omega)
  have h0:=h (m+1) 0 (by omega) (((((((r++[vR v 7])++[vR v 6])++[vR v 5])++[vR v 4])++[vR v 3])++[vR v 2])++[vR v 1]) (by simp;omega)
  refine(h7.trans (h6.trans (h5.trans (h4.trans (h3.trans (h2.trans (h1.trans (h0.trans ?_))))))))
  show some (aP,bR,bo,_)=_
  simp only[List.append_assoc,List.cons_append,List.nil_append]
  rfl
 obtain⟨m,rfl⟩:∃m,k=m+9:=⟨k-9,by omega⟩
 exact gen m
theorem yCp {k}(hk:9≤k) l (hl:l.length≤1000000):∀(m n i:Nat),i+m=l.length→m<n→ym k n l (l.length:Int) (i:Int) (nB (l.take i))=some (nB l)
 |0,n,i,hi,hn=>by
  obtain⟨n,rfl⟩:∃x,n=x+1:=⟨n-1,by omega⟩
  show Cr k (ym k n) l _ _ _=_
  unfold Cr
  simp_all
 |m+1,n,i,hi,hn=>by
  obtain⟨n,rfl⟩:∃x,n=x+1:=⟨n-1,by omega⟩
  show Cr k (ym k n) l _ _ _=_
  unfold Cr
  have bg:i<l.length:=by omega
  rw[aa (by grind),ai,iM (by omega) (by omega),ai,aq,
   vKc hk _ _ _ _ _ (by rw[sH,List.length_take];omega),ae,qK (N:=l.length) bg (by omega)]
  rw[show nB (l.take i)++qc (l.getD i 0)=nB (l.take (i+1)) by
   rw[←fL l i 0 bg]
   simp[nB]]
  exact yCp hk l hl m n (i+1) (by omega) (by omega)
theorem Hw {k}(hk:9≤k) l (hl:l.length≤1000000)(tZ:l.length<k):uM k l=some (nB l):=by
 unfold uM
 have h8:zA (8*(l.length:Int))=((8*l.length:Nat):Int):=by rw[zQ (by omega) (by omega)];omega
 rw[h8]
 have hm:pP 0 ((8*l.length:Nat):Int) 1=true:=by
  grind
 rw[hm,ai]
 have:=yCp hk l hl l.length k 0 (by omega) tZ
 show(ym k k l (l.length:Int) ((0:Nat):Int) (nB (l.take 0))).bind _=_
 simp_all
def yn (l:AC):AC:=qc (l.length:Int)++nB l
theorem vD6 {k}(hk:9≤k) l (hl:l.length≤1000000)(tZ:l.length<k):LI k l=some (yn l):=by
 unfold LI
 rw[Hw hk [(l.length:Int)] (by simp) (by grind),ae,Hw hk l hl tZ,ae]
 rw[qT (by rw[sH,sH];grind) (by rw[sH,sH];grind)]
 rfl
def uN (b:AC):AC:=[IntKind.wrap .u8 (shr .i64 (b.length:Int) 8),IntKind.wrap .u8 (b.length:Int)]++b
theorem yI4 k b:Hy k b=some (if b.length≤60000 then(uN b,true) else([],false)):=by
 unfold Hy
 by_cases h:b.length≤60000
 ·rw[ab (by omega),aj,qT (by omega) (by omega),if_pos h]
  rfl
 grind
def kt (l:EQ):AC:=l.flatMap yn
theorem Hz l:(yn l).length=8*(l.length+1):=by
 simp[yn,sH]
 show 8+_=_
 omega
theorem vZw {l:EQ}{i}(h:i<l.length):kt (l.take i)++yn (l.getD i [])=kt (l.take (i+1)):=by
 rw[←fL l i [] h]
 simp[kt]
structure eS (l:EQ):Prop where
 n:l.length≤900
 r:∀x∈l,x.length≤900
theorem vFe {l}(h:∀x∈l,x.length≤900):(kt l).length≤8000*l.length:=by
 induction l with
 |nil=>simp[kt]
 |cons x l ih=>
  have h1:=ih (by grind)
  have h2:=h x (by simp)
  simp[kt,Hz] at h1⊢
  omega
theorem vUc {k}(hk:1000≤k){l}(h:eS l):HA k l=some (kt l):=by
 have hn:=h.n
 unfold HA
 obtain ⟨s, h1, h2⟩ := vC (L := fun n i (s : AC) => Ct k n l (l.length : Int) i s) (N := l.length) (fun s => s) (fun i s => s = kt (l.take i)) (fun n s _=>by
  show Cu k (Ct k n) l _ _ s=_
  unfold Cu
  simp) (fun n i s hi hs=>by
  refine⟨s++yn (l.getD i []),?_,by rw[hs,vZw hi]⟩
  show Cu k (Ct k n) l _ (i:Int) s=_
  unfold Cu
  have hr:=h.r _ (jV (d:=[]) hi)
  have ue:s.length≤8000*1000:=by
   have:=vFe (l:=l.take i) fun x hx=>h.r x (by grind)
   grind
  rw[aa (by grind),ai,iM (by omega) (by omega),ai,aq,vD6 (by omega) _ (by omega) (by omega),ae,
   qT (by rw[Hz];omega) (by rw[Hz];omega),ai,qK (N:=l.length) hi (by omega)]) (n:=k) (s:=[]) (by omega) rfl
 simp_all
def Cv (a:Int×Int×Int):AC:=[a.1,a.2.1,a.2.2]
def Cw (p:Int×Int×Int×Int×Int×Int×Int):AC:=[p.1,p.2.1,p.2.2.1,p.2.2.2.1,p.2.2.2.2.1,p.2.2.2.2.2.1,p.2.2.2.2.2.2]
def yo (s:LC):EQ:=
 (((((([[s.1,s.2.2.2.2.2.2.2.2.2.1,bif s.2.2.2.2.2.2.2.2.2.2 then 1 else 0,(s.2.1.length:Int),(s.2.2.1.length:Int),(s.2.2.2.1.length:Int),(s.2.2.2.2.1.length:Int),(s.2.2.2.2.2.2.1.length:Int),(s.2.2.2.2.2.2.2.1.length:Int)]]++
  s.2.1.map Cv)++s.2.2.1)++[s.2.2.2.1])++s.2.2.2.2.1)++[s.2.2.2.2.2.1])++s.2.2.2.2.2.2.1)++s.2.2.2.2.2.2.2.1.map Cw++[s.2.2.2.2.2.2.2.2.1]
theorem yL4 {α β:Type}(f:α→β) d {l:List α}{i}(h:i<l.length):(l.take i).map f++[f (l.getD i d)]=(l.take (i+1)).map f:=by
 rw[←fL l i d h];simp
theorem vDz {k}{l:List (Int×Int×Int)}(hl:l.length≤900)(hk:1000≤k)(s:LC)(b) r (hr:r.length≤1000000):yp k k l (l.length:Int) 0 s b r=some (s,b,r++l.map Cv):=by
 obtain ⟨t, h1, h2⟩ := vC (L := fun n i (t : EQ) => yp k n l (l.length : Int) i s b t) (N := l.length) (fun t => (s, b, t)) (fun i t => t = r ++ (l.take i).map Cv) (fun n t _=>by
  show Cx k (yp k n) l _ _ s b t=_
  unfold Cx
  simp) (fun n i t hi ht=>by
  refine⟨t++[Cv (l.getD i (0,0,0))],?_,by rw[ht,List.append_assoc,yL4 Cv (0,0,0) hi]⟩
  show Cx k (yp k n) l _ (i:Int) s b t=_
  unfold Cx
  have:t.length≤1001000:=by grind
  rw[aa (by grind),ai,iM (by omega) (by omega),ai,qT (by omega) (by omega),ai,qK (N:=l.length) hi (by omega)]
  rfl) (n:=k) (s:=r) (by omega) (by simp)
 simp_all
theorem vFy {k}{l:List (Int×Int×Int×Int×Int×Int×Int)}(hl:l.length≤900)(hk:1000≤k)(s:LC) r (hr:r.length≤1000000):yq k k l (l.length:Int) 0 s r=some (s,r++l.map Cw):=by
 obtain ⟨t, h1, h2⟩ := vC (L := fun n i (t : EQ) => yq k n l (l.length : Int) i s t) (N := l.length) (fun t => (s, t)) (fun i t => t = r ++ (l.take i).map Cw) (fun n t _=>by
  show Cy k (yq k n) l _ _ s t=_
  unfold Cy
  simp) (fun n i t hi ht=>by
  refine⟨t++[Cw (l.getD i (0,0,0,0,0,0,0))],?_,by rw[ht,List.append_assoc,yL4 Cw (0,0,0,0,0,0,0) hi]⟩
  show Cy k (yq k n) l _ (i:Int) s t=_
  unfold Cy
  have:t.length≤1001000:=by grind
  rw[aa (by grind),ai,iM (by omega) (by omega),ai,qT (by omega) (by omega),ai,qK (N:=l.length) hi (by omega)]
  rfl) (n:=k) (s:=r) (by omega) (by simp)
 simp_all
theorem S6 {k}(hk:1000≤k){s}(h:eS (yo s)):ku k s=some (kt (yo s)):=by
 have hn:=h.n
 simp only[yo,List.length_append,List.length_map] at hn
 unfold ku
 rw[show LJ k s.2.2.2.2.2.2.2.2.2.2=some (bif s.2.2.2.2.2.2.2.2.2.2 then 1 else 0) by unfold LJ;grind,ae]
 rw[vDz (by omega) hk _ _ _ (by simp),ae]
 dsimp only
 rw[qT (by grind) (by grind),ai,qT (by grind) (by grind),ai,qT (by simp;omega) (by grind),ai,qT (by simp;omega) (by simp;omega),ai,
  qT (by simp;omega) (by simp;omega),ai,vFy (by omega) hk _ _ (by simp;omega),ae]
 dsimp only
 rw[qT (by simp;omega) (by simp;omega),ai]
 show(HA k (yo s)).bind (fun x1=>some x1)=_
 rw[vUc hk h]
 rfl
structure oD (D:kq):Prop where
 aa1:D.2.2.2.2.2.2.2.1=false
 down:D.2.2.2.2.2.2.2.2.1=false
 room:0≤D.1∧D.1≤200000
 x:(D.2.1.length:Int)≤D.1
 y:(D.2.2.2.1.length:Int)≤D.1
def wW (D:kq)(i:Int):AC:=if i=0 then D.2.1 else D.2.2.2.1
theorem oD.as {D}(h:oD D):∃ro x sx y sy cA cK op,D=jx ro x sx y sy cA cK op∧0≤ro∧ro≤200000∧(x.length:Int)≤ro∧(y.length:Int)≤ro:=by
 obtain⟨ro,x,sx,y,sy,cA,cK,ar,dn,op⟩:=D
 obtain⟨h1,h2,h3,h4,h5⟩:=h
 subst h1;subst h2
 grind
theorem LK {ro sx sy cA cK op x y}(h0:0≤ro)(h1:ro≤200000)(hx:(x.length:Int)≤ro)(hy:(y.length:Int)≤ro):oD (jx ro x sx y sy cA cK op):=⟨rfl,rfl,by grind,hx,hy⟩
theorem vFj {k D}(h:oD D){i}(hi:i=0∨i=1){b}(hb:b.length≤100000):
  ((b.length:Int)>D.1-((wW D i).length:Int)∧sG k D i b=some (3,D))∨
  ((b.length:Int)≤D.1-((wW D i).length:Int)∧∃D1 D2,sG k D i b=some (0,D1)∧Hv k D1=some (0,D2)∧oD D2∧D2.1=D.1∧wW D2 i=wW D i++b∧wW D2 (1-i)=wW D (1-i)):=by
 obtain⟨ro,x,sx,y,sy,cA,cK,op,rfl,h0,h1,hx,hy⟩:=h.as
 rcases hi with rfl|rfl
 ·have hw:zA (ro-(x.length:Int))=ro-(x.length:Int):=zQ (by omega) (by omega)
  by_cases hf:(b.length:Int)>ro-(x.length:Int)
  ·exact .inl ⟨hf,vI6 (by rw[hw];exact hf)⟩
  ·refine .inr ⟨by show(b.length:Int)≤ro-(x.length:Int);omega,_,_,yIe (by omega) (by omega),S4,LK h0 h1 (by rw[List.length_append];omega) hy,rfl,rfl,rfl⟩
 ·have hw:zA (ro-(y.length:Int))=ro-(y.length:Int):=zQ (by omega) (by omega)
  by_cases hf:(b.length:Int)>ro-(y.length:Int)
  ·exact .inl ⟨hf,vNh (by rw[hw];exact hf)⟩
  ·refine .inr ⟨by show(b.length:Int)≤ro-(y.length:Int);omega,_,_,vA1 (by rw[hw];omega) (by omega),S4,LK h0 h1 hx (by rw[List.length_append];omega),rfl,rfl,rfl⟩
structure S7 (L:qb):Prop where
 side:L.1=0∨L.1=1
 gen:1≤L.2.1∧L.2.1≤4611686018427387904
 rows:0≤L.2.2.1∧L.2.2.1≤1000000
 stale:L.2.2.2=false
theorem yB7 b:(uN b).length=b.length+2:=by rfl
theorem vRf {k D}(h:oD D){L}(hL:S7 L){b}(hb:b.length≤60000):
  ((b.length:Int)+2>D.1-((wW D L.1).length:Int)∧yr k L D b=some (10,L,D))∨
  ((b.length:Int)+2≤D.1-((wW D L.1).length:Int)∧∃D2,yr k L D b=some (0,(L.1,L.2.1,zA (L.2.2.1+1),L.2.2.2),D2)∧oD D2∧D2.1=D.1∧wW D2 L.1=wW D L.1++uN b∧wW D2 (1-L.1)=wW D (1-L.1)):=by
 have hr:((uN b).length:Int)=(b.length:Int)+2:=by rfl
 unfold yr
 rw[yI4,if_pos hb,ae,hL.stale]
 rcases vFj (k:=k) h hL.side (b:=uN b) (by omega) with⟨h1,h2⟩|⟨h1,D1,D2,h2,h3,h4,h5,h6,h7⟩
 all_goals simp_all
theorem vD4 {k}(hk:9≤k){D}(h:oD D){L}(hL:S7 L)(hg:L.2.1<4611686018427387904){b}(hb:b.length≤50000)(uA:(b.length:Int)+10≤D.1):
  ∃D2,uO k L D b=some (0,(1-L.1,L.2.1+1,0,false),D2)∧oD D2∧D2.1=D.1∧wW D2 (1-L.1)=uN (qc (L.2.1+1)++b)∧wW D2 L.1=wW D L.1:=by
 obtain⟨ro,x,sx,y,sy,cA,cK,op,rfl,h0,h1,hx,hy⟩:=h.as
 obtain⟨si,ge,rw',st⟩:=L
 have kj:=hL.gen
 dsimp only at kj hg
 have uA:(b.length:Int)+10≤ro:=uA
 have e1:zA (ge+1)=ge+1:=zQ (by omega) (by omega)
 have hlen:(uN (qc (ge+1)++b)).length=b.length+10:=by rfl
 unfold uO LL
 rw[e1,Hw hk [ge+1] (by simp) (by simp;omega),ae,show nB [ge+1]=qc (ge+1) by simp[nB]]
 rw[qT (by show(8+b.length)*1≤_;omega) (by show 8+b.length≤_;omega),ai,yI4,if_pos (by rw[List.length_append];show 8+b.length≤_;omega),ae]
 rw[ay,aj,ab (by omega),aj]
 rw[show S8 k (jx ro x sx y sy cA cK op)=some ro from rfl,ae,hlen,ab (by omega),aj]
 rcases hL.side with hs|hs<;>dsimp only at hs<;>subst hs
 ·rw[show zA (1-0)=1 from rfl,S3,ae]
  rw[show decide ((0:Int)=0)=true from rfl,ay,aj,vA1 (by rw[zQ (by simp;omega) (by simp;omega)];simp;omega) (by simp;omega),ae]
  exact⟨_,rfl,LK h0 h1 hx (by simp_all),rfl,rfl,rfl⟩
 ·rw[show zA (1-1)=0 from rfl,vW1,ae]
  rw[show decide ((0:Int)=0)=true from rfl,ay,aj,yIe (by rw[zQ (by simp;omega) (by omega)];simp;omega) (by simp;omega),ae]
  rw[show decide ((0:Int)=0)=true from rfl,ay,aj,S4]
  exact⟨_,rfl,LK h0 h1 (by simp_all) hy,rfl,rfl,rfl⟩
structure Tk (L:qb) (N:Nat):Prop where
 side:L.1=0∨L.1=1
 gen:1≤L.2.1∧L.2.1≤(N:Int)+1
 rows:0≤L.2.2.1∧L.2.2.1≤(N:Int)
 stale:L.2.2.2=false
theorem Tk.takes {L N}(h:Tk L N)(hN:N≤1000000):S7 L:=⟨h.side,⟨h.gen.1,by have:=h.gen.2;omega⟩,⟨h.rows.1,by have:=h.rows.2;omega⟩,h.stale⟩
theorem Tk.more {L N M}(h:Tk L N)(hN:N≤M):Tk L M:=⟨h.side,⟨h.gen.1,by have:=h.gen.2;omega⟩,⟨h.rows.1,by have:=h.rows.2;omega⟩,h.stale⟩
structure abd (k:Nat) (s:LC) (b:AC):Prop where
 is:ku k s=some b
 len:b.length≤50000
abbrev qO:=Int×Int×Int
abbrev zE:=Int×Int×Int×Int×Int×Int×Int
def jU (a:qO):Bool:=decide (a.1>-4611686018427387904)&&(decide (a.1<4611686018427387904)&&(decide (a.2.1≥0)&&(decide (a.2.1≤2305843009213693952)&&(decide (a.2.2≥0)&&decide (a.2.2≤2305843009213693952)))))
def wP (n:Int):Bool:=decide (n≥-1)&&decide (n≤2305843009213693952)
def gz (n:Int):Bool:=decide (n>-72057594037927936)&&decide (n<72057594037927936)
def cell (m:EQ)(i j:Nat):Int:=(m.getD i []).getD j 0
def lP (n:Nat)(m:EQ):Bool:=decide (m.length=n)&&qH (fun i=>decide ((m.getD i []).length=n)) n 0
def oE (p:Int→Bool)(n:Nat)(m:EQ):Bool:=qH (fun i=>qH (fun j=>p (cell m i j)) n 0) n 0
def sI (n:Nat)(m:EQ):Bool:=qH (fun i=>qH (fun j=>decide (cell m i j=zA (0-cell m j i))) n 0) n 0
def lQ (uP:List qO)(bil:EQ)(mul:AC)(pos:EQ):Bool:=
 let n:=uP.length
 decide (1≤n)&&(decide (n≤6)&&(lP n bil&&(lP n pos&&(decide (mul.length=n)&&(qH (fun i=>jU (uP.getD i (0,0,0))) n 0&&(qH (fun i=>wP (mul.getD i 0)) n 0&&(oE wP n bil&&(oE gz n pos&&sI n pos))))))))
theorem S9 (k:Nat)(b c r:Int):HB k b c r=some (jU (b,c,r)):=by
 unfold HB jU
 cases decide (b>-4611686018427387904)<;>cases decide (b<4611686018427387904)<;>cases decide (c≥0)<;>cases decide (c≤2305843009213693952)<;>cases decide (r≥0)<;>rfl
theorem yOn (k:Nat)(b c r:Int):LM k b c r=some (jU (b,c,r)):=S9 k b c r
theorem Ta (k:Nat)(n:Int):HC k n=some (wP n):=by
 unfold HC wP
 cases decide (n≥-1)<;>rfl
theorem vQn (k:Nat)(n:Int):Tb k n=some (wP n):=Ta k n
theorem vS7 (k:Nat)(n:Int):LN k n=some (gz n):=by
 unfold LN gz
 cases decide (n>-72057594037927936)<;>rfl
theorem yEu {k:Nat}{n:Nat}(hk:n<k)(hn:n≤1000)(m:EQ):HD k m n=some (lP n m):=by
 unfold HD lP
 simp only[qa]
 by_cases h:m.length=n
 ·have := lN (L := fun c i => HE k c m n i) (N := n) (fun i => decide ((m.getD i []).length = n)) (.inl ()) (.inr false) (fun c=>by
    show Cz k _ m n n=_
    unfold Cz
    simp only [qB, ab (Nat.lt_irrefl n), aj]) (fun c i hi=>by
    show Cz k _ m n i=_
    unfold Cz
    simp only[qG,qK hi (by omega),qB,qa,aq,h,aa hi,ai]
    cases decide ((m.getD i []).length=n)<;>rfl) hk
  simp only[h,decide_true,ay,aj,Bool.true_and]
  rw[this]
  generalize qH _ _ _=r
  cases r<;>rfl
 ·simp only[ab h,bx,ai,Bool.false_and]
theorem vPf {k:Nat}{N i:Nat}(hk:N<k)(hN:N≤1000)(hi:i<N){a:List qO}{b p:EQ}{m:AC}(hb:b.length=N)(hp:p.length=N)(Tc:∀j,j<N→(b.getD j []).length=N)(oF:∀j,j<N→(p.getD j []).length=N):
  CA k k N i 0 a b m p=some (bif qH (fun j=>wP (cell b i j)&&(gz (cell p i j)&&decide (cell p i j=zA (0-cell p j i)))) N 0 then .inl ((N:Int),(i:Int),a,b,m,p) else .inr false):=by
 refine lN (L:=fun c j=>CA k c N i j a b m p) (N:=N) _ (.inl ((N:Int),(i:Int),a,b,m,p)) (.inr false) (fun c=>?_) (fun c j hj=>?_) hk
 ·show CB k _ N i N a b m p=_
  unfold CB
  simp only[qB,ab (Nat.lt_irrefl N),aj]
 ·show CB k _ N i j a b m p=_
  unfold CB
  simp only[qG,qK hj (by omega),qB,aq,hb,hp,Tc i hi,oF i hi,oF j hj,aa hj,aa hi,ai,Ta,ae,gz]
  show(bif !wP (cell b i j) then _ else bif decide (cell p i j≤_) then _ else bif decide (cell p i j≥_) then _ else bif !decide (cell p i j=_) then _ else _)=_
  have e1:decide (cell p i j≤-72057594037927936)= !decide (cell p i j>-72057594037927936):=by
   by_cases h:cell p i j≤-72057594037927936
   ·rw[aa h,ab (by omega)];rfl
   ·rw[ab h,aa (by omega)];rfl
  have e2:decide (cell p i j≥72057594037927936)= !decide (cell p i j<72057594037927936):=by
   by_cases h:cell p i j≥72057594037927936
   ·rw[aa h,ab (by omega)];rfl
   ·rw[ab h,aa (by omega)];rfl
  rw[e1,e2]
  show(bif !wP (cell b i j) then _ else bif _ then _ else bif _ then _ else bif !decide (cell p i j=zA (0-cell p j i)) then _ else _)=_
  cases wP (cell b i j)<;>cases decide (cell p i j>-72057594037927936)<;>cases decide (cell p i j<72057594037927936)<;>cases decide (cell p i j=zA (0-cell p j i))<;>rfl
theorem Td {k:Nat}{N:Nat}(hk:N<k)(hN:N≤1000){a:List qO}{b p:EQ}{m:AC}(ha:a.length=N)(hm:m.length=N)(hb:b.length=N)(hp:p.length=N)(Tc:∀j,j<N→(b.getD j []).length=N)(oF:∀j,j<N→(p.getD j []).length=N):
  CC k k N 0 a b m p=some (bif qH (fun i=>jU (a.getD i (0,0,0))&&(wP (m.getD i 0)&&qH (fun j=>wP (cell b i j)&&(gz (cell p i j)&&decide (cell p i j=zA (0-cell p j i)))) N 0)) N 0 then .inl () else .inr false):=by
 refine lN (L:=fun c j=>CC k c N j a b m p) (N:=N) _ (.inl ()) (.inr false) (fun c=>?_) (fun c i hi=>?_) hk
 ·show CD k _ N N a b m p=_
  unfold CD
  simp only[qB,ab (Nat.lt_irrefl N),aj]
 ·show CD k _ N i a b m p=_
  unfold CD
  simp only[qG,qB,aq,ha,hm,aa hi,ai,Ta,S9,ae,vPf hk hN hi hb hp Tc oF]
  generalize qH _ N 0=r
  show(bif !jU (a.getD i (0,0,0)) then _ else _)=_
  cases jU (a.getD i (0,0,0))<;>cases wP (m.getD i 0)<;>cases r<;>simp only[ay,bx,ai,aj,Bool.and_true,Bool.and_false,Bool.true_and,Bool.false_and,qK hi (show N<9223372036854775808 by omega)]
theorem vC5 {k:Nat}(hk:10<k)(a:List qO)(b:EQ)(m:AC)(p:EQ):LO k a b m p=some (lQ a b m p):=by
 unfold LO
 have l1:decide ((a.length:Int)<1)= !decide (1≤a.length):=by
  by_cases h:1≤a.length
  ·rw[aa h,ab (by omega)];rfl
  ·rw[ab h,aa (by omega)];rfl
 have l2:decide ((a.length:Int)>6)= !decide (a.length≤6):=by
  by_cases h:a.length≤6
  ·rw[aa h,ab (by omega)];rfl
  ·rw[ab h,aa (by omega)];rfl
 rw[l1,l2]
 unfold lQ
 dsimp only
 by_cases h1:1≤a.length
 case neg=>rw[ab h1];rfl
 by_cases h2:a.length≤6
 case neg=>rw[aa h1,ab h2];rfl
 rw[aa h1,aa h2]
 simp only[ay,aj,Bool.true_and]
 rw[yEu (by omega) (by omega),yEu (by omega) (by omega)]
 simp only[ae,qa]
 cases hb:lP a.length b with
 |false=>rfl
 |true=>
  cases hp:lP a.length p with
  |false=>rfl
  |true=>
   by_cases hm:m.length=a.length
   case neg=>simp only[ab hm];rfl
   simp only[lP,aR,aN,fZ] at hb hp
   simp only[hm,decide_true,ay,aj,Bool.true_and]
   rw[Td (by omega) (by omega) rfl hm hb.1 hp.1 hb.2 hp.2]
   have e:(qH (fun i=>jU (a.getD i (0,0,0))) a.length 0&&(qH (fun i=>wP (m.getD i 0)) a.length 0&&(oE wP a.length b&&(oE gz a.length p&&sI a.length p))))=
     qH (fun i=>jU (a.getD i (0,0,0))&&(wP (m.getD i 0)&&qH (fun j=>wP (cell b i j)&&(gz (cell p i j)&&decide (cell p i j=zA (0-cell p j i)))) a.length 0)) a.length 0:=by
    rw[Bool.eq_iff_iff]
    simp only[oE,sI,aR,fZ]
    constructor
    ·rintro⟨h1,h2,h3,h4,h5⟩ i hi
     exact⟨h1 i hi,h2 i hi,fun j hj=>⟨h3 i hi j hj,h4 i hi j hj,h5 i hi j hj⟩⟩
    ·intro h
     exact⟨fun i hi=>(h i hi).1,fun i hi=>(h i hi).2.1,fun i hi j hj=>((h i hi).2.2 j hj).1,fun i hi j hj=>((h i hi).2.2 j hj).2.1,fun i hi j hj=>((h i hi).2.2 j hj).2.2⟩
   rw[e]
   generalize qH _ _ _=r
   cases r<;>rfl
theorem vXc {k:Nat}{a:List qO}(hk:a.length<k)(hl:a.length<9223372036854775808):LP k a=some (!qH (fun i=>jU (a.getD i (0,0,0))) a.length 0):=by
 obtain ⟨x, h1, h2⟩ := uI (L := fun c i => HF k c a a.length i) (N := a.length) (fun i => !jU (a.getD i (0, 0, 0))) (fun c=>by
  show CE k _ a a.length a.length=_
  unfold CE
  simp only [qB, ab (Nat.lt_irrefl _), aj]) (fun c i hi=>by
  show CE k _ a a.length i=_
  unfold CE Te
  simp only[qG,qK hi hl,qB,aq,aa hi,ai,yOn,ae]) hk
 unfold LP Tf
 rw[h1]
 simp only[Bool.not_not] at h2
 rw[←h2]
 cases x<;>rfl
theorem vK3 {k:Nat}{a:AC}(hk:a.length<k)(hl:a.length<9223372036854775808):LQ k a=some (!qH (fun i=>wP (a.getD i 0)) a.length 0):=by
 obtain ⟨x, h1, h2⟩ := uI (L := fun c i => HG k c a a.length i) (N := a.length) (fun i => !wP (a.getD i 0)) (fun c=>by
  show CF k _ a a.length a.length=_
  unfold CF
  simp only [qB, ab (Nat.lt_irrefl _), aj]) (fun c i hi=>by
  show CF k _ a a.length i=_
  unfold CF Tg
  simp only[qG,qK hi hl,qB,aq,aa hi,ai,vQn,ae]) hk
 unfold LQ Th
 rw[h1]
 simp only[Bool.not_not] at h2
 rw[←h2]
 cases x<;>rfl
theorem vI8 {k:Nat}{a:AC}(hk:a.length<k)(hl:a.length<9223372036854775808):LR k a=some (!qH (fun i=>gz (a.getD i 0)) a.length 0):=by
 obtain ⟨x, h1, h2⟩ := uI (L := fun c i => HH k c a a.length i) (N := a.length) (fun i => !gz (a.getD i 0)) (fun c=>by
  show CG k _ a a.length a.length=_
  unfold CG
  simp only [qB, ab (Nat.lt_irrefl _), aj]) (fun c i hi=>by
  show CG k _ a a.length i=_
  unfold CG Ti
  simp only[qG,qK hi hl,qB,aq,aa hi,ai,vS7,ae]) hk
 unfold LR Tj
 rw[h1]
 simp only[Bool.not_not] at h2
 rw[←h2]
 cases x<;>rfl
theorem yZ5 {k n:Nat}(hk:n<k)(hn:n≤1000)(a:AC):HI k a n=some (decide (a.length=n)&&qH (fun i=>wP (a.getD i 0)) n 0):=by
 unfold HI
 simp only[qa]
 by_cases h:a.length=n
 ·rw[vK3 (by omega) (by omega)]
  simp only[h,decide_true,ai,ae,Bool.not_not,Bool.true_and]
 ·simp only[ab h,aj,Bool.false_and]
theorem vCw {k n:Nat}(hk:n<k)(hn:n≤1000)(a:AC):LS k a n=some (decide (a.length=n)&&qH (fun i=>gz (a.getD i 0)) n 0):=by
 unfold LS
 simp only[qa]
 by_cases h:a.length=n
 ·rw[vI8 (by omega) (by omega)]
  simp only[h,decide_true,ai,ae,Bool.not_not,Bool.true_and]
 ·simp only[ab h,aj,Bool.false_and]
theorem vD1 {k n:Nat}(hk:n<k)(hn:n≤1000)(m:EQ):LU k m n=some (decide (m.length=n)&&qH (fun i=>decide ((m.getD i []).length=n)&&qH (fun j=>wP (cell m i j)) n 0) n 0):=by
 unfold LU
 simp only[qa]
 by_cases h:m.length=n
 ·have := lN (L := fun c i => HJ k c n m n i) (N := n) (fun i => decide ((m.getD i []).length = n) && qH (fun j => wP (cell m i j)) n 0) (.inl ()) (.inr false) (fun c=>by
    show CH k _ n m n n=_
    unfold CH
    simp only [qB, ab (Nat.lt_irrefl n), aj]) (fun c i hi=>by
    show CH k _ n m n i=_
    unfold CH
    simp only[qG,qK hi (by omega),qB,aq,h,aa hi,ai,yZ5 hk hn,ae]
    show(bif !(decide ((m.getD i []).length=n)&&qH (fun j=>wP (cell m i j)) n 0) then _ else _)=_
    generalize (decide ((m.getD i []).length=n)&&qH (fun j=>wP (cell m i j)) n 0)=r
    cases r<;>rfl) hk
  simp only[h,decide_true,ay,aj,Bool.true_and]
  rw[this]
  generalize qH _ _ _=r
  cases r<;>rfl
 ·simp only[ab h,bx,ai,Bool.false_and]
theorem vQ1 {k n:Nat}(hk:n<k)(hn:n≤1000)(m:EQ):LV k m n=some (decide (m.length=n)&&qH (fun i=>decide ((m.getD i []).length=n)&&qH (fun j=>gz (cell m i j)) n 0) n 0):=by
 unfold LV
 simp only[qa]
 by_cases h:m.length=n
 ·have := lN (L := fun c i => HK k c n m n i) (N := n) (fun i => decide ((m.getD i []).length = n) && qH (fun j => gz (cell m i j)) n 0) (.inl ()) (.inr false) (fun c=>by
    show CI k _ n m n n=_
    unfold CI
    simp only [qB, ab (Nat.lt_irrefl n), aj]) (fun c i hi=>by
    show CI k _ n m n i=_
    unfold CI
    simp only[qG,qK hi (by omega),qB,aq,h,aa hi,ai,vCw hk hn,ae]
    show(bif !(decide ((m.getD i []).length=n)&&qH (fun j=>gz (cell m i j)) n 0) then _ else _)=_
    generalize (decide ((m.getD i []).length=n)&&qH (fun j=>gz (cell m i j)) n 0)=r
    cases r<;>rfl) hk
  simp only[h,decide_true,ay,aj,Bool.true_and]
  rw[this]
  generalize qH _ _ _=r
  cases r<;>rfl
 ·simp only[ab h,bx,ai,Bool.false_and]
theorem vFf {k N i:Nat}(hk:N<k)(hN:N≤1000)(hi:i<N){p q:EQ}{u:Int}(hp:p.length=N)(oF:∀j,j<N→(p.getD j []).length=N):
  CJ k k p i q u i (p.getD i []) N 0=some (bif qH (fun j=>decide (cell p j i=zA (0-cell p i j))) N 0 then .inl (p,q,u,(i:Int)) else .inr false):=by
 refine lN (L:=fun c j=>CJ k c p i q u i (p.getD i []) N j) (N:=N) _ (.inl (p,q,u,(i:Int))) (.inr false) (fun c=>?_) (fun c j hj=>?_) hk
 ·show CK k _ p i q u i (p.getD i []) N N=_
  unfold CK
  simp only[qB,ab (Nat.lt_irrefl N),aj]
 ·show CK k _ p i q u i (p.getD i []) N j=_
  unfold CK
  simp only[qG,qK hj (show N<9223372036854775808 by omega),qB,aq,hp,oF i hi,oF j hj,aa hj,aa hi,ai]
  show(bif !decide (cell p j i=zA (0-cell p i j)) then _ else _)=_
  generalize decide (cell p j i=zA (0-cell p i j))=r
  cases r<;>rfl
theorem vWt {k N:Nat}(hk:N<k)(hN:N≤1000){p:EQ}(hp:p.length=N)(oF:∀j,j<N→(p.getD j []).length=N):
  LW k p=some (sI N p):=by
 have := lN (L := fun c i => HL k c p p N i) (N := N) (fun i => qH (fun j => decide (cell p j i = zA (0 - cell p i j))) N 0) (.inl ()) (.inr false) (fun c=>by
   show CL k _ p p N N=_
   unfold CL
   simp only [qB, ab (Nat.lt_irrefl N), aj]) (fun c i hi=>by
   show CL k _ p p N i=_
   unfold CL
   simp only[qG,qB,aq,hp,oF i hi,aa hi,ai,vFf hk hN hi hp oF,ae]
   generalize qH _ N 0=r
   cases r<;>simp only[ai,aj,qK hi (show N<9223372036854775808 by omega)]) hk
 unfold LW
 simp only[hp]
 rw[this]
 have e:qH (fun i=>qH (fun j=>decide (cell p j i=zA (0-cell p i j))) N 0) N 0=sI N p:=by
  rw[Bool.eq_iff_iff]
  simp only[sI,fZ]
  exact⟨fun h i hi j hj=>h j hj i hi,fun h i hi j hj=>h j hj i hi⟩
 rw[e]
 generalize sI N p=r
 cases r<;>rfl
theorem vT0 {k:Nat}(hk:10<k)(a:List qO)(b:EQ)(m:AC)(p:EQ):HM k a b m p=some (lQ a b m p):=by
 unfold HM
 have l1:decide ((a.length:Int)<1)= !decide (1≤a.length):=by
  by_cases h:1≤a.length
  ·rw[aa h,ab (by omega)];rfl
  ·rw[ab h,aa (by omega)];rfl
 have l2:decide ((a.length:Int)>6)= !decide (a.length≤6):=by
  by_cases h:a.length≤6
  ·rw[aa h,ab (by omega)];rfl
  ·rw[ab h,aa (by omega)];rfl
 rw[l1,l2]
 unfold lQ
 dsimp only
 by_cases h1:1≤a.length
 case neg=>rw[ab h1];rfl
 by_cases h2:a.length≤6
 case neg=>rw[aa h1,ab h2];rfl
 rw[aa h1,aa h2]
 simp only[ay,aj,Bool.true_and]
 rw[vXc (by omega) (by omega),vD1 (by omega) (by omega),yZ5 (by omega) (by omega),vQ1 (by omega) (by omega)]
 simp only[ae]
 generalize hA:qH (fun i=>jU (a.getD i (0,0,0))) a.length 0=A
 have sq:∀(q:Int→Bool) (m:EQ),(decide (m.length=a.length)&&qH (fun i=>decide ((m.getD i []).length=a.length)&&qH (fun j=>q (cell m i j)) a.length 0) a.length 0)=(lP a.length m&&oE q a.length m):=by
  intro q m
  rw[Bool.eq_iff_iff]
  simp only[lP,oE,aR,aN,fZ]
  exact⟨fun h=>⟨⟨h.1,fun i hi=>(h.2 i hi).1⟩,fun i hi=>(h.2 i hi).2⟩,fun h=>⟨h.1.1,fun i hi=>⟨h.1.2 i hi,h.2 i hi⟩⟩⟩
 rw[sq wP b,sq gz p]
 cases hp:lP a.length p with
 |false=>
  cases A<;>cases lP a.length b<;>cases oE wP a.length b<;>cases decide (m.length=a.length)<;>cases qH (fun i=>wP (m.getD i 0)) a.length 0<;>rfl
 |true=>
  simp only[lP,aR,aN,fZ] at hp
  rw[vWt (N:=a.length) (by omega) (by omega) hp.1 hp.2]
  cases A<;>cases lP a.length b<;>cases oE wP a.length b<;>cases decide (m.length=a.length)<;>cases qH (fun i=>wP (m.getD i 0)) a.length 0<;>cases oE gz a.length p<;>cases sI a.length p<;>rfl
theorem yL7 {k N:Nat}{s:EQ}(hN:s.length=N)(hl:N≤1000)(hr:∀i,i<N→(s.getD i []).length≤1000):∀(c i n:Nat),i+c=N→c<n→HN k n s i (s.take i)=some s
 |0,i,n,h,hn=>by
  obtain⟨n,rfl⟩:∃m,n=m+1:=⟨n-1,by omega⟩
  show CM k _ s i (s.take i)=_
  unfold CM
  have:¬i<s.length:=by omega
  simp only[qB,ab this,aj]
  rw[List.take_of_length_le (by omega)]
 |c+1,i,n,h,hn=>by
  obtain⟨n,rfl⟩:∃m,n=m+1:=⟨n-1,by omega⟩
  show CM k _ s i (s.take i)=_
  unfold CM
  have hi:i<s.length:=by omega
  have h1:=hr i (by omega)
  have e1:zO (0+(s.getD i []).length) 8=true:=qT (by omega) (by omega)
  have e2:zO ((s.take i).length+1) 24=true:=qT (by rw[List.length_take];omega) (by rw[List.length_take];omega)
  simp only[qG,qK hi (show s.length<9223372036854775808 by omega),qB,aq,aa hi,ai,e1,e2]
  rw[fL s i [] hi]
  exact yL7 hN hl hr c (i+1) n (by omega) (by omega)
theorem vAh {k:Nat}{s:EQ}(hl:s.length≤1000)(hk:s.length<k)(hr:∀i,i<s.length→(s.getD i []).length≤1000):HO k s=some s:=by
 unfold HO
 have:=yL7 (k:=k) rfl hl hr s.length 0 k (by omega) hk
 rw[List.take_zero] at this
 have e:((0:Nat):Int)=0:=rfl
 rw[e] at this
 rw[this]
 rfl
theorem yNn {k N:Nat}{s:EQ}(hN:s.length=N)(hl:N≤1000)(hr:∀i,i<N→(s.getD i []).length≤1000):∀(c i n:Nat),i+c=N→c<n→HP k n s N i (s.take i) N=some (s,N)
 |0,i,n,h,hn=>by
  obtain⟨n,rfl⟩:∃m,n=m+1:=⟨n-1,by omega⟩
  show CN k _ s N i (s.take i) N=_
  unfold CN
  have:¬i<N:=by omega
  simp only[qB,ab this,aj]
  rw[List.take_of_length_le (by omega)]
 |c+1,i,n,h,hn=>by
  obtain⟨n,rfl⟩:∃m,n=m+1:=⟨n-1,by omega⟩
  show CN k _ s N i (s.take i) N=_
  unfold CN oG
  have hi:i<N:=by omega
  have h1:=hr i (by omega)
  have e1:zO (0+(s.getD i []).length) 8=true:=qT (by omega) (by omega)
  have e2:Nat.beq i (s.take i).length=true:=by rw[List.length_take,Nat.min_eq_left (by omega)];simp
  simp only[qG,qK hi (show N<9223372036854775808 by omega),qB,aq,aa hi,ai,e1,e2,hN,ae]
  rw[fL s i [] (by omega)]
  exact yNn hN hl hr c (i+1) n (by omega) (by omega)
theorem yVg {k:Nat}{s:EQ}(hl:s.length≤1000)(hk:s.length<k)(hr:∀i,i<s.length→(s.getD i []).length≤1000):HQ k s=some s:=by
 unfold HQ Tl
 have:=yNn (k:=k) rfl hl hr s.length 0 k (by omega) hk
 rw[List.take_zero] at this
 have e:((0:Nat):Int)=0:=rfl
 rw[e] at this
 have e1:zO (0+s.length) 24=true:=qT (by omega) (by omega)
 simp only[e1,ai,ae]
 rw[this]
 simp only[ae,vL5]
 simp
structure Sized (a:List qO) (b:EQ) (m:AC) (p:EQ):Prop where
 n1:1≤a.length
 n6:a.length≤6
 bl:b.length=a.length
 br:∀i,i<a.length→(b.getD i []).length=a.length
 ml:m.length=a.length
 pl:p.length=a.length
 pr:∀i,i<a.length→(p.getD i []).length=a.length
structure wM (a:List qO) (b:EQ) (m:AC) (p:EQ):Prop extends Sized a b m p where
 acct:∀i,i<a.length→jU (a.getD i (0,0,0))=true
 mul:∀i,i<a.length→wP (m.getD i 0)=true
 bil:∀i,i<a.length→∀j,j<a.length→wP (cell b i j)=true
 net:∀i,i<a.length→∀j,j<a.length→gz (cell p i j)=true
 turn:∀i,i<a.length→∀j,j<a.length→cell p i j=zA (0-cell p j i)
theorem Tm {a:List qO}{b:EQ}{m:AC}{p:EQ}:lQ a b m p=true↔wM a b m p:=by
 unfold lQ
 simp only[aR,aN,lP,oE,sI,fZ]
 constructor
 ·rintro⟨h1,h2,⟨h3,h4⟩,⟨h5,h6⟩,h7,h8,h9,Tn,To,Tp⟩
  exact{n1:=h1,n6:=h2,bl:=h3,br:=h4,ml:=h7,pl:=h5,pr:=h6,acct:=h8,mul:=h9,bil:=Tn,net:=To,turn:=Tp}
 ·intro h
  exact⟨h.n1,h.n6,⟨h.bl,h.br⟩,⟨h.pl,h.pr⟩,h.ml,h.acct,h.mul,h.bil,h.net,h.turn⟩
theorem HR {k:Nat}(hk:10<k){a:List qO}{b:EQ}{m:AC}{p:EQ}(h:Sized a b m p):nC k a b m p=some (a,b,m,p):=by
 obtain⟨h1,h2,h3,h4,h5,h6,h7⟩:=h
 unfold nC
 have e1:zO (0+a.length) 24=true:=qT (by omega) (by omega)
 have e2:zO (0+m.length) 8=true:=qT (by omega) (by omega)
 rw[vAh (s:=b) (by omega) (by omega) (fun i hi=>by rw[h4 i (by omega)];omega),vAh (s:=p) (by omega) (by omega) (fun i hi=>by rw[h7 i (by omega)];omega)]
 simp only[e1,e2,ai,ae]
theorem HS {k:Nat}(hk:10<k){a:List qO}{b:EQ}{m:AC}{p:EQ}(h:Sized a b m p):fM k a b m p=some (a,b,m,p):=by
 obtain⟨h1,h2,h3,h4,h5,h6,h7⟩:=h
 unfold fM Tq oG
 have e1:zO (0+a.length) 24=true:=qT (by omega) (by omega)
 have e2:zO (0+m.length) 8=true:=qT (by omega) (by omega)
 rw[yVg (s:=b) (by omega) (by omega) (fun i hi=>by rw[h4 i (by omega)];omega),yVg (s:=p) (by omega) (by omega) (fun i hi=>by rw[h7 i (by omega)];omega)]
 simp only[e1,e2,ai,ae]
theorem LX {α:Type}(d:α)[DecidableEq α]{a b:List α}(h:a.length=b.length):qH (fun i=>decide (a.getD i d=b.getD i d)) a.length 0=decide (a=b):=by
 rw[Bool.eq_iff_iff,fZ]
 simp only[aN]
 exact⟨fun h'=>Cl d h h',fun h'=>by subst h';exact fun i hi=>rfl⟩
theorem LY {k:Nat}{a b:AC}(hk:a.length<k)(hl:a.length<9223372036854775808):sJ k a b=some (decide (a=b)):=by
 unfold sJ
 simp only[qa]
 by_cases h:a.length=b.length
 ·have := lN (L := fun c i => HT k c a b i) (N := a.length) (fun i => decide (a.getD i 0 = b.getD i 0)) (.inl ()) (.inr false) (fun c=>by
    show CO k _ a b a.length=_
    unfold CO
    simp only [qB, ab (Nat.lt_irrefl _), aj]) (fun c i hi=>by
    show CO k _ a b i=_
    unfold CO
    simp only[qG,qK hi hl,qB,aq,←h,aa hi,ai]
    cases decide (a.getD i 0=b.getD i 0)<;>rfl) hk
  rw[LX 0 h] at this
  simp only[h,decide_true,ay,aj]
  rw[this]
  cases decide (a=b)<;>rfl
 ·simp only[ab h,bx,ai]
  rw[ab fun e=>h (by rw[e])]
theorem Ts {k:Nat}{a b:EQ}(hk:a.length<k)(hl:a.length<9223372036854775808)(hr:∀i,i<a.length→(a.getD i []).length<k∧(a.getD i []).length<9223372036854775808):yt k a b=some (decide (a=b)):=by
 unfold yt
 simp only[qa]
 by_cases h:a.length=b.length
 ·have := lN (L := fun c i => HU k c a b i) (N := a.length) (fun i => decide (a.getD i [] = b.getD i [])) (.inl ()) (.inr false) (fun c=>by
    show CP k _ a b a.length=_
    unfold CP
    simp only [qB, ab (Nat.lt_irrefl _), aj]) (fun c i hi=>by
    show CP k _ a b i=_
    unfold CP
    simp only[qG,qK hi hl,qB,aq,←h,aa hi,ai,LY (hr i hi).1 (hr i hi).2,ae]
    cases decide (a.getD i []=b.getD i [])<;>rfl) hk
  rw[LX [] h] at this
  simp only[h,decide_true,ay,aj]
  rw[this]
  cases decide (a=b)<;>rfl
 ·simp only[ab h,bx,ai]
  rw[ab fun e=>h (by rw[e])]
theorem vJe {k:Nat}(hk:10<k){a:List qO}{b:EQ}{m:AC}{p:EQ}(h:Sized a b m p)(a':List qO)(b':EQ)(m':AC)(p':EQ):
  HV k a b m p a' b' m' p'=some (decide (a=a')&&(decide (b=b')&&(decide (p=p')&&decide (m=m')))):=by
 obtain⟨h1,h2,h3,h4,h5,h6,h7⟩:=h
 unfold HV
 simp only[qa]
 by_cases hl:a.length=a'.length
 ·rw[Ts (a:=b) (by omega) (by omega) (fun i hi=>by rw[h4 i (by omega)];omega),Ts (a:=p) (by omega) (by omega) (fun i hi=>by rw[h7 i (by omega)];omega),LY (by omega) (by omega)]
  have := lN (L := fun c i => HW k c i a b m p a' b' m' p') (N := a.length) (fun i => decide (a.getD i (0, 0, 0) = a'.getD i (0, 0, 0))) (.inl ()) (.inr false) (fun c=>by
    show CQ k _ a.length a b m p a' b' m' p'=_
    unfold CQ
    simp only [qB, ab (Nat.lt_irrefl _), aj]) (fun c i hi=>by
    show CQ k _ i a b m p a' b' m' p'=_
    unfold CQ
    simp only[qG,qK hi (show a.length<9223372036854775808 by omega),qB,aq,←hl,aa hi,ai]
    have e:decide (a.getD i (0,0,0)=a'.getD i (0,0,0))=(decide ((a.getD i (0,0,0)).1=(a'.getD i (0,0,0)).1)&&(decide ((a.getD i (0,0,0)).2.1=(a'.getD i (0,0,0)).2.1)&&decide ((a.getD i (0,0,0)).2.2=(a'.getD i (0,0,0)).2.2))):=by
     rw[Bool.eq_iff_iff]
     simp only[aR,aN]
     exact⟨fun h=>by rw[h];exact⟨rfl,rfl,rfl⟩,fun h=>Prod.ext h.1 (Prod.ext h.2.1 h.2.2)⟩
    rw[e]
    generalize (decide ((a.getD i (0,0,0)).1=(a'.getD i (0,0,0)).1)&&_)=r
    cases r<;>rfl) (show a.length<k by omega)
  rw[LX (0,0,0) hl] at this
  simp only[hl,decide_true,ay,aj,ae]
  have e0:((0:Nat):Int)=0:=rfl
  rw[this]
  cases decide (b=b')<;>cases decide (p=p')<;>cases decide (m=m')<;>cases decide (a=a')<;>rfl
 ·simp only[ab hl,bx,ai]
  rw[ab fun e=>hl (by rw[e])]
  rfl
abbrev pd:zE:=(0,(0,(0,(0,(0,(0,0))))))
abbrev ad:qO:=(0,(0,0))
def sK (n:Nat)(p:zE):Bool:=decide (p.2.1≥0)&&(decide (p.2.1<(n:Int))&&(decide (p.2.2.1≥0)&&(decide (p.2.2.1<(n:Int))&&(!decide (p.2.1=p.2.2.1)&&(decide (p.2.2.2.1≥1)&&(decide (p.2.2.2.1≤1099511627776)&&(decide (p.2.2.2.2.1≥1)&&decide (p.2.2.2.2.1≤3))))))))
structure yG (n:Nat) (p:zE):Prop where
 f0:0≤p.2.1
 f1:p.2.1<n
 t0:0≤p.2.2.1
 t1:p.2.2.1<n
 ne:p.2.1≠p.2.2.1
 a1:1≤p.2.2.2.1
 a2:p.2.2.2.1≤1099511627776
 c1:1≤p.2.2.2.2.1
 c3:p.2.2.2.2.1≤3
theorem ySp {n p}:sK n p=true↔yG n p:=by
 unfold sK
 simp
 exact⟨fun⟨h1,h2,h3,h4,h5,h6,h7,h8,h9⟩=>⟨h1,h2,h3,h4,h5,h6,h7,h8,h9⟩,fun⟨h1,h2,h3,h4,h5,h6,h7,h8,h9⟩=>by grind⟩
theorem Tt k (a:List qO) b m p i f t am c s ti:CR k a b m p i f t am c s ti=some (sK a.length (i,f,t,am,c,s,ti)):=by
 unfold CR sK
 grind
theorem vIw k (a:List qO) b m p i f t am c s ti:Tu k a b m p i f t am c s ti=some (sK a.length (i,f,t,am,c,s,ti)):=Tt k a b m p i f t am c s ti
def mF (n:Nat)(l:List zE):Bool:=qH (fun i=>sK n (l.getD i pd)) l.length 0
theorem yu {n l}:mF n l=true↔∀p∈l,yG n p:=by
 unfold mF
 rw[fZ]
 constructor
 ·intro h p hp
  obtain⟨i,hi,rfl⟩:=List.getElem_of_mem hp
  have:=h i hi
  rw[List.getD_eq_getElem?_getD,List.getElem?_eq_getElem hi] at this
  exact ySp.1 this
 ·intro h i hi
  exact ySp.2 (by grind)
theorem vUz {k}{l:List zE}(hk:l.length<k)(hl:l.length<9223372036854775808)(a:List qO) b m p:LZ k l a b m p=some (!mF a.length l):=by
 obtain ⟨x, h1, h2⟩ := uI (L := fun c i => HX k c l l.length i a b m p) (N := l.length) (fun i => !sK a.length (l.getD i pd)) (fun c=>by
  show CT k _ l l.length l.length a b m p=_
  unfold CT
  simp) (fun c i hi=>by
  show CT k _ l l.length i a b m p=_
  unfold CT Tv
  simp[qG,qK hi hl,aa hi,Tt]) hk
 unfold LZ Tw
 unfold mF
 grind
theorem vBp {k}{l:List zE}(hk:l.length<k)(hl:l.length<9223372036854775808)(a:List qO) b m p:HY k a b m p l=some (mF a.length l&&decide (l.length≤64)):=by
 unfold HY
 have := lN (L := fun c i => HZ k c l i a b m p) (N := l.length) (fun i => sK a.length (l.getD i pd)) (.inl l) (.inr false) (fun c=>by
  show CU k _ l l.length a b m p=_
  unfold CU
  simp) (fun c i hi=>by
  show CU k _ l i a b m p=_
  unfold CU
  simp only[qG,qK hi hl,qB,aa hi,vIw]
  simp) hk
 unfold mF
 have e:decide (((l.length:Nat):Int)≤64)=decide (l.length≤64):=by
  grind
 grind
def gB (i:Nat)(p:zE):Int:=(if p.2.2.1=i then p.2.2.2.1 else 0)-(if p.2.1=i then p.2.2.2.1 else 0)
def gS (i j:Nat)(p:zE):Int:=if p.2.1=i∧p.2.2.1=j then p.2.2.2.1 else 0
def gR (i:Nat)(p:zE):Int:=if p.2.1=i∧p.2.2.2.2.1≠3 then p.2.2.2.1 else 0
def wN (r s:Int):Int:=if s≥r then 0 else r-s
theorem vXv {r s t}(hs:0≤s)(ht:0≤t):wN (wN r s) t=wN r (s+t):=by
 unfold wN
 omega
theorem Tx {r}(hr:0≤r):wN r 0=r:=by
 unfold wN
 omega
theorem vIe {r s}:0≤wN r s:=by
 unfold wN
 omega
theorem vN1 {r s}(hr:0≤r)(hs:0≤s):wN r s≤r:=by
 unfold wN
 omega
section
variable {n:Nat} {p:zE}
theorem vWc (h:yG n p) i:-1099511627776≤gB i p∧gB i p≤1099511627776:=by
 have h1:=h.a1;have h2:=h.a2;unfold gB
 omega
theorem Tz (h:yG n p) i j:0≤gS i j p∧gS i j p≤1099511627776:=by
 have h1:=h.a1;have h2:=h.a2
 unfold gS
 omega
theorem L1 (h:yG n p) i:0≤gR i p∧gR i p≤1099511627776:=by
 have h1:=h.a1;have h2:=h.a2
 unfold gR
 omega
end
def vW (n:Nat)(l:List zE):Prop:=(∀p∈l,yG n p)∧l.length≤64
theorem L3 {n l}(h:vW n l) i:-70368744177664≤zP (gB i) l∧zP (gB i) l≤70368744177664:=by
 have h1:=Ch (g:=gB i) (A:=1099511627776) fun p hp=>vWc (h.1 p hp) i
 have h2:=h.2
 omega
theorem sL {n l}(h:vW n l) i j:0≤zP (gS i j) l∧zP (gS i j) l≤70368744177664:=by
 have h1:=Ch (g:=gS i j) (A:=1099511627776) fun p hp=>by have:=Tz (h.1 p hp) i j;omega
 have h0:=uJ (g:=gS i j) fun p hp=>(Tz (h.1 p hp) i j).1
 have h2:=h.2
 omega
theorem yv {n l}(h:vW n l) i:0≤zP (gR i) l∧zP (gR i) l≤70368744177664:=by
 have h1:=Ch (g:=gR i) (A:=1099511627776) fun p hp=>by have:=L1 (h.1 p hp) i;omega
 have h0:=uJ (g:=gR i) fun p hp=>(L1 (h.1 p hp) i).1
 have h2:=h.2
 omega
theorem vW.take {n l}(h:vW n l) i:vW n (l.take i):=⟨fun p hp=>h.1 p (by grind),by rw[List.length_take];have:=h.2;omega⟩
structure sM (n:Nat) (a:List qO) (p:EQ) (l:List zE) (a':List qO) (p':EQ):Prop where
 al:a'.length=n
 acct:∀i,i<n→a'.getD i ad=((a.getD i ad).1+zP (gB i) l,(a.getD i ad).2.1,wN (a.getD i ad).2.2 (zP (gR i) l))
 pl:p'.length=n
 pr:∀i,i<n→(p'.getD i []).length=n
 cell:∀i,i<n→∀j,j<n→cell p' i j=cell p i j+zP (gS i j) l-zP (gS j i) l
theorem vD7 {n p q}(hp:p.length=n)(hq:q.length=n)(oF:∀i,i<n→(p.getD i []).length=n)(hqr:∀i,i<n→(q.getD i []).length=n)(h:∀i,i<n→∀j,j<n→cell p i j=cell q i j):p=q:=
 Cl [] (by omega) fun i hi=>Cl 0 (by simp_all) fun j hj=>h i (by omega) j (by simp_all)
theorem sM.same {n a a1 a2 p p1 p2 l}(x:sM n a p l a1 p1)(y:sM n a p l a2 p2):a1=a2∧p1=p2:=
 ⟨Cl ad (by rw[x.al,y.al]) fun i hi=>by have:=x.al;rw[x.acct i (by omega),y.acct i (by omega)],
  vD7 x.pl y.pl x.pr y.pr fun i hi j hj=>by rw[x.cell i hi j hj,y.cell i hi j hj]⟩
structure L4 (n:Nat) (a:List qO) (p:EQ):Prop where
 al:a.length=n
 pl:p.length=n
 pr:∀i,i<n→(p.getD i []).length=n
 bal:∀i,i<n→-4611686018427387904<(a.getD i ad).1∧(a.getD i ad).1<4611686018427387904
 res:∀i,i<n→0≤(a.getD i ad).2.2∧(a.getD i ad).2.2≤2305843009213693952
 net:∀i,i<n→∀j,j<n→-72057594037927936<cell p i j∧cell p i j<72057594037927936
theorem wM.nums {a b m p}(h:wM a b m p):L4 a.length a p where
 al:=rfl
 pl:=h.pl
 pr:=h.pr
 bal:=fun i hi=>by
  have:=h.acct i hi
  show-4611686018427387904<(a.getD i (0,0,0)).1∧(a.getD i (0,0,0)).1<4611686018427387904
  simp only[jU,aR,aN] at this
  omega
 res:=fun i hi=>by
  have:=h.acct i hi
  show 0≤(a.getD i (0,0,0)).2.2∧(a.getD i (0,0,0)).2.2≤2305843009213693952
  simp only[jU,aR,aN] at this
  omega
 net:=fun i hi j hj=>by
  have:=h.net i hi j hj
  simp[gz] at this
  omega
theorem TA {m f t i j x}(hf:f<m.length)(ht:t<(m.getD f []).length):cell (m.set f ((m.getD f []).set t x)) i j=if i=f∧j=t then x else cell m i j:=by
 unfold cell
 grind
theorem L5 {n}{m:EQ}{f t x}(hm:m.length=n)(hr:∀i,i<n→(m.getD i []).length=n)(hf:f<n):∀i,i<n→((m.set f ((m.getD f []).set t x)).getD i []).length=n:=by
 grind
def CV (p:zE)(r:List qO):List qO:=
 let y0:=r.set p.2.1.toNat (zA ((r.getD p.2.1.toNat ad).1-p.2.2.2.1),(r.getD p.2.1.toNat ad).2)
 let y1:=y0.set p.2.2.1.toNat (zA ((y0.getD p.2.2.1.toNat ad).1+p.2.2.2.1),(y0.getD p.2.2.1.toNat ad).2)
 bif !decide (p.2.2.2.2.1=3) then y1.set p.2.1.toNat ((y1.getD p.2.1.toNat ad).1,((y1.getD p.2.1.toNat ad).2.1,wJ false (zA ((y1.getD p.2.1.toNat ad).2.2-p.2.2.2.1)) 0)) else y1
def uQ (p:zE)(m:EQ):EQ:=
 let y3:=m.set p.2.1.toNat ((m.getD p.2.1.toNat []).set p.2.2.1.toNat (zA ((m.getD p.2.1.toNat []).getD p.2.2.1.toNat 0+p.2.2.2.1)))
 y3.set p.2.2.1.toNat ((y3.getD p.2.2.1.toNat []).set p.2.1.toNat (zA ((y3.getD p.2.2.1.toNat []).getD p.2.1.toNat 0-p.2.2.2.1)))
theorem vL3 p r:(CV p r).length=r.length:=by
 unfold CV
 grind
theorem TB {n p}(h:yG n p){r}(hr:r.length=n){i}(hi:i<n)(hb:∀i,i<n→-4611826755915743232<(r.getD i ad).1∧(r.getD i ad).1<4611826755915743232)
  (hz:∀i,i<n→0≤(r.getD i ad).2.2∧(r.getD i ad).2.2≤2305843009213693952):(CV p r).getD i ad=((r.getD i ad).1+gB i p,(r.getD i ad).2.1,wN (r.getD i ad).2.2 (gR i p)):=by
 obtain⟨f0,f1,t0,t1,ne,a1,a2,c1,c3⟩:=h
 obtain⟨f,hf⟩:∃f:Nat,p.2.1=f:=⟨p.2.1.toNat,by omega⟩
 obtain⟨t,ht⟩:∃t:Nat,p.2.2.1=t:=⟨p.2.2.1.toNat,by omega⟩
 have L6:f≠t:=by omega
 have gA:f<n:=by omega
 have ga:t<n:=by omega
 have bf:=hb f gA
 have bt:=hb t ga
 have zf:=hz f gA
 have e1:(r.set f (zA ((r.getD f ad).1-p.2.2.2.1),(r.getD f ad).2)).getD t ad=r.getD t ad:=by rw[jM,if_neg (fun e=>L6 e.1)]
 have key:∀j,j<n→((r.set f (zA ((r.getD f ad).1-p.2.2.2.1),(r.getD f ad).2)).set t (zA ((r.getD t ad).1+p.2.2.2.1),(r.getD t ad).2)).getD j ad=((r.getD j ad).1+gB j p,(r.getD j ad).2):=by
  intro j hj
  unfold gB
  rw[hf,ht,jM]
  by_cases hjt:t=j
  ·subst hjt
   rw[if_pos (by grind),if_pos rfl,if_neg (by omega),zQ (by omega) (by omega)]
   simp
  ·rw[if_neg (fun e=>hjt e.1),if_neg (by omega),jM]
   by_cases hjf:f=j
   ·subst hjf
    rw[if_pos ⟨rfl,by omega⟩,if_pos rfl,zQ (by omega) (by omega)]
    simp only[Int.zero_sub];rfl
   ·rw[if_neg (fun e=>hjf e.1),if_neg (by omega)]
    simp
 unfold CV
 simp only[hf,ht,aq,e1]
 unfold gR
 cases hc:decide (p.2.2.2.2.1=3) with
 |true=>
  have kJ:p.2.2.2.2.1=3:=by simpa using hc
  simp only[ay,aj]
  rw[key i hi,if_neg (fun e=>e.2 kJ),Tx (hz i hi).1]
 |false=>
  have kJ:p.2.2.2.2.1≠3:=by simpa using hc
  simp only[bx,ai]
  rw[jM]
  by_cases hif:f=i
  ·subst hif
   rw[if_pos (by grind),key f gA,if_pos ⟨hf,kJ⟩]
   have:wJ false (zA ((r.getD f ad).2.2-p.2.2.2.1)) 0=wN (r.getD f ad).2.2 p.2.2.2.1:=by
    rw[zQ (by omega) (by omega)]
    unfold wJ wN
    grind
   rw[this]
  ·rw[if_neg (fun e=>hif e.1),key i hi,if_neg (by omega),Tx (hz i hi).1]
theorem vBr {n:Nat}{p:zE}(h:yG n p){m:EQ}(hm:m.length=n)(hr:∀i,i<n→(m.getD i []).length=n)(hb:∀i,i<n→∀j,j<n→-72128000000000000<cell m i j∧cell m i j<72128000000000000):
  (uQ p m).length=n∧(∀i,i<n→((uQ p m).getD i []).length=n)∧∀i,i<n→∀j,j<n→cell (uQ p m) i j=cell m i j+gS i j p-gS j i p:=by
 obtain⟨f0,f1,t0,t1,ne,a1,a2,c1,c3⟩:=h
 obtain⟨f,hf⟩:∃f:Nat,p.2.1=f:=⟨p.2.1.toNat,by omega⟩
 obtain⟨t,ht⟩:∃t:Nat,p.2.2.1=t:=⟨p.2.2.1.toNat,by omega⟩
 have L6:f≠t:=by omega
 have gA:f<n:=by omega
 have ga:t<n:=by omega
 unfold uQ
 simp only[hf,ht,aq]
 have r1:=L5 (x:=zA ((m.getD f []).getD t 0+p.2.2.2.1)) (t:=t) hm hr gA
 have c1:∀i j,cell (m.set f ((m.getD f []).set t (zA ((m.getD f []).getD t 0+p.2.2.2.1)))) i j=if i=f∧j=t then zA (cell m f t+p.2.2.2.1) else cell m i j:=fun i j=>TA (by omega) (by rw[hr f gA];omega)
 refine⟨by simp only[List.length_set];exact hm,by grind,fun i hi j hj=>?_⟩
 rw[TA (by rw[List.length_set];omega) (by rw[r1 t ga];omega)]
 have e2:((m.set f ((m.getD f []).set t (zA ((m.getD f []).getD t 0+p.2.2.2.1)))).getD t []).getD f 0=cell m t f:=by
  show cell _ t f=_
  simp_all
 rw[e2,c1]
 unfold gS
 rw[hf,ht]
 have b1:=hb f gA t ga
 have b2:=hb t ga f gA
 by_cases h1:i=t∧j=f
 ·obtain⟨rfl,rfl⟩:=h1
  rw[if_pos ⟨rfl,rfl⟩,if_neg (by omega),if_pos ⟨rfl,rfl⟩,zQ (by omega) (by omega)]
  omega
 ·rw[if_neg h1]
  by_cases h2:i=f∧j=t
  ·obtain⟨rfl,rfl⟩:=h2
   rw[if_pos ⟨rfl,rfl⟩,if_pos ⟨rfl,rfl⟩,if_neg (by omega),zQ (by omega) (by omega)]
   omega
  omega
theorem vEi {k n a b m p l}(hk:l.length<k)(hx:L4 n a p)(hl:vW n l)(b0:List qO) b1 b2 b3:
  ∃a' p',CW k k l l.length 0 b0 b1 b2 b3 a b m p=some (b0,b1,b2,b3,a',b,m,p')∧sM n a p l a' p':=by
 have := vC (L := fun c i (s : List qO × EQ) => CW k c l l.length i b0 b1 b2 b3 s.1 b m s.2) (N := l.length) (fun s => (b0, b1, b2, b3, s.1, b, m, s.2)) (fun i s => sM n a p (l.take i) s.1 s.2) (fun c s hs=>by
   show CX k _ l l.length l.length b0 b1 b2 b3 s.1 b m s.2=_
   unfold CX
   simp) (fun c i s hi hs=>by
   refine⟨(CV (l.getD i pd) s.1,uQ (l.getD i pd) s.2),?_,?_⟩
   ·show CX k _ l l.length i b0 b1 b2 b3 s.1 b m s.2=_
    have bS:yG n (l.getD i pd):=hl.1 _ (jV hi)
    unfold CX CV uQ
    have mG:=hl.2
    simp only[qG,qK hi (by grind),qB,aq,aa hi,ai]
    obtain⟨f0,f1,t0,t1,ne,a1,a2,c1,c3⟩:=bS
    obtain⟨f,hf⟩:∃f:Nat,(l.getD i pd).2.1=f:=⟨(l.getD i pd).2.1.toNat,by omega⟩
    obtain⟨t,ht⟩:∃t:Nat,(l.getD i pd).2.2.1=t:=⟨(l.getD i pd).2.2.1.toNat,by omega⟩
    have gA:f<n:=by omega
    have ga:t<n:=by omega
    have r1:=L5 (x:=zA ((s.2.getD f []).getD t 0+(l.getD i pd).2.2.2.1)) (t:=t) hs.pl hs.pr gA
    simp only[hf,ht,aq,qG,hs.al,hs.pl,List.length_set,hs.pr f gA,r1 t ga,aa gA,aa ga,ai,uR,ae]
    grind
   ·have bS:yG n (l.getD i pd):=hl.1 _ (jV hi)
    have aW:=hl.take i
    have hp := vBr bS hs.pl hs.pr (fun i' bV j' lF=>by
     rw[hs.cell i' bV j' lF]
     have h1:=hx.net i' bV j' lF
     have h2:=sL aW i' j'
     have h3:=sL aW j' i'
     omega)
    refine⟨by rw[vL3];exact hs.al,fun i' bV=>?_,hp.1,hp.2.1,fun i' bV j' lF=>?_⟩
    ·rw [TB bS hs.al bV (fun j hj=>by
       rw[hs.acct j hj]
       have h1:=hx.bal j hj
       have h2:=L3 aW j
       dsimp only
       omega) (fun j hj=>by
       rw[hs.acct j hj]
       have h1:=hx.res j hj
       have h2:=yv aW j
       dsimp only
       exact⟨vIe,Int.le_trans (vN1 h1.1 h2.1) h1.2⟩),hs.acct i' bV,←fL l i pd hi,la,la]
     dsimp only[zP]
     rw[vXv (yv aW i').1 (L1 bS i').1,Int.add_zero,Int.add_zero,Int.add_assoc]
    ·rw[hp.2.2 i' bV j' lF,hs.cell i' bV j' lF,←fL l i pd hi,la,la]
     dsimp only[zP]
     omega) (s:=(a,p)) hk ⟨hx.al,fun i hi=>by
      rw[List.take_zero]
      show a.getD i ad=((a.getD i ad).1+0,(a.getD i ad).2.1,wN (a.getD i ad).2.2 0)
      rw[Tx (hx.res i hi).1,Int.add_zero],hx.pl,hx.pr,fun i hi j hj=>by
      rw[List.take_zero]
      show cell p i j=cell p i j+0-0
      omega⟩
 simp_all
theorem TC {k n l}(hk:l.length<k)(hl:vW n l)(i j:Nat):uS k l i j=some (zP (gS i j) l):=by
 have mG:=hl.2
 obtain ⟨s, h1, h2⟩ := vC (L := fun c x (s : Int) => H0 k c l i j s x) (N := l.length) (fun s => s) (fun x s => s = zP (gS i j) (l.take x)) (fun c s hs=>by
   show CY k _ l i j s l.length=_
   unfold CY
   simp) (fun c x s hx hs=>by
   refine⟨zP (gS i j) (l.take (x+1)),?_,rfl⟩
   show CY k _ l i j s x=_
   have hb:=sL (hl.take x) i j
   have hm:yG n (l.getD x pd):=hl.1 _ (by grind)
   have e:zP (gS i j) (l.take (x+1))=s+gS i j (l.getD x pd):=by
    rw[←fL l x pd hx,la,hs]
    show _+(_+0)=_
    omega
   have w:=zQ (x:=s+(l.getD x pd).2.2.2.1) (by have:=hm.a1;omega) (by have:=hm.a2;omega)
   unfold CY
   simp[qG,qK hx (by grind)]
   rw[e]
   unfold gS
   grind) (s:=0) hk rfl
 unfold uS
 simp_all
theorem vUf {k n l}(hk:l.length<k)(hl:vW n l)(i j:Nat):L7 k l i j=some (zP (gS i j) l-zP (gS j i) l):=by
 unfold L7
 rw[TC hk hl i j,TC hk hl j i]
 have h1:=sL hl i j
 have h2:=sL hl j i
 simp
 rw[zQ (by omega) (by omega)]
def gN (i:Nat)(p:zE):Int:=if p.2.1=i∧p.2.2.2.2.1=3 then p.2.2.2.1 else 0
theorem L8 {n p}(h:yG n p) i:0≤gN i p∧gN i p≤1099511627776:=by
 have h1:=h.a1;have h2:=h.a2
 unfold gN
 omega
theorem qY6 {n l}(h:vW n l) i:0≤zP (gN i) l∧zP (gN i) l≤70368744177664:=by
 have h1:=Ch (g:=gN i) (A:=1099511627776) fun p hp=>by have:=L8 (h.1 p hp) i;omega
 have h0:=uJ (g:=gN i) fun p hp=>(L8 (h.1 p hp) i).1
 have h2:=h.2
 omega
theorem yF7 {k n:Nat}{l}(hk:l.length<k)(hl:vW n l)(i:Nat):H2 k l i=some (zP (gN i) l,zP (gR i) l):=by
 have mG:=hl.2
 obtain ⟨s, h1, h2⟩ := vC (L := fun c x (s : Int × Int) => H3 k c l i s.1 s.2 x) (N := l.length) (fun s => s) (fun x s => s = (zP (gN i) (l.take x), zP (gR i) (l.take x))) (fun c s hs=>by
   show CZ k _ l i s.1 s.2 l.length=_
   unfold CZ
   simp) (fun c x s hx hs=>by
   refine⟨(zP (gN i) (l.take (x+1)),zP (gR i) (l.take (x+1))),?_,rfl⟩
   show CZ k _ l i s.1 s.2 x=_
   have hb:=qY6 (hl.take x) i
   have bB:=yv (hl.take x) i
   have hm:yG n (l.getD x pd):=hl.1 _ (by grind)
   have e:zP (gN i) (l.take (x+1))=s.1+gN i (l.getD x pd):=by
    rw[←fL l x pd hx,la,hs]
    show _+(_+0)=_
    omega
   have e':zP (gR i) (l.take (x+1))=s.2+gR i (l.getD x pd):=by
    rw[←fL l x pd hx,la,hs]
    show _+(_+0)=_
    omega
   have w:=zQ (x:=s.1+(l.getD x pd).2.2.2.1) (by have:=hm.a1;grind) (by have:=hm.a2;grind)
   have w':=zQ (x:=s.2+(l.getD x pd).2.2.2.1) (by have:=hm.a1;rw[hs];omega) (by have:=hm.a2;grind)
   unfold CZ
   simp only[qG,qK hx (by grind),qB,ai]
   rw[e,e']
   unfold gN gR
   grind) (s:=(0,0)) hk rfl
 unfold H2
 simp_all
theorem vXt {k n l}(hk:l.length<k)(hl:vW n l)(i:Nat):L9 k l i=some (zP (gR i) l):=by
 unfold L9
 rw[yF7 hk hl i]
 rfl
theorem yW8 k b c r s (h:-9223372036854775808≤r-s)(h':r<9223372036854775808)(hs:0≤s):C3 k b c r s=some (wN r s):=by
 unfold C3 wN
 by_cases e:s≥r
 ·simp_all
 ·rw[ab e,if_neg e,zQ h (by omega)];rfl
theorem yOf {n l}(hl:∀p∈l,yG n p) i (hi:i<n):qJ (fun j=>zP (gS i j) l-zP (gS j i) l) n= -zP (gB i) l:=by
 have e1:qJ (fun j=>zP (gS i j) l-zP (gS j i) l) n=qJ (fun j=>zP (fun p=>gS i j p-gS j i p) l) n:=oB fun j _=>(S0 _ _ l).symm
 rw[e1,LA (fun j p=>gS i j p-gS j i p)]
 have e2:∀p∈l,qJ (fun j=>gS i j p-gS j i p) n=0-gB i p:=by
  intro p hp
  obtain⟨f0,f1,t0,t1,ne,a1,a2,c1,c3⟩:=hl p hp
  obtain⟨f,hf⟩:∃f:Nat,p.2.1=f:=⟨p.2.1.toNat,by omega⟩
  obtain⟨t,ht⟩:∃t:Nat,p.2.2.1=t:=⟨p.2.2.1.toNat,by omega⟩
  have g1:∀j,gS i j p-gS j i p=(if j=t then(if f=i then p.2.2.2.1 else 0) else 0)+(if j=f then(if t=i then-p.2.2.2.1 else 0) else 0):=by
   unfold gS
   omega
  rw[oB fun j _=>g1 j,Ck,yi,yi]
  unfold gB
  omega
 rw[Ly e2,S0]
 have:zP (fun _:zE=>(0:Int)) l=0:=by
  clear e1 e2 hl
  induction l with
  |nil=>rfl
  |cons p l ih=>show 0+zP _ l=0;omega
 omega
structure vKr (n:Nat) (a:List qO) (p:EQ) (l:List zE) (i:Nat) (a':List qO) (p':EQ):Prop where
 al:a'.length=n
 done:∀x,x<n→x<i→a'.getD x ad=((a.getD x ad).1+zP (gB x) l,(a.getD x ad).2.1,wN (a.getD x ad).2.2 (zP (gR x) l))
 rest:∀x,x<n→¬x<i→a'.getD x ad=a.getD x ad
 pl:p'.length=n
 pr:∀x,x<n→(p'.getD x []).length=n
 cell:∀x,x<n→∀y,y<n→cell p' x y=if x<i then cell p x y+zP (gS x y) l-zP (gS y x) l else cell p x y
structure TD (n:Nat) (a:List qO) (p:EQ) (l:List zE) (i j:Nat) (a':List qO) (p':EQ):Prop where
 al:a'.length=n
 done:∀x,x<n→x<i→a'.getD x ad=((a.getD x ad).1+zP (gB x) l,(a.getD x ad).2.1,wN (a.getD x ad).2.2 (zP (gR x) l))
 here:a'.getD i ad=((a.getD i ad).1-qJ (fun j=>zP (gS i j) l-zP (gS j i) l) j,(a.getD i ad).2.1,wN (a.getD i ad).2.2 (zP (gR i) l))
 rest:∀x,x<n→i<x→a'.getD x ad=a.getD x ad
 pl:p'.length=n
 pr:∀x,x<n→(p'.getD x []).length=n
 cell:∀x,x<n→∀y,y<n→cell p' x y=if x<i∨(x=i∧y<j) then cell p x y+zP (gS x y) l-zP (gS y x) l else cell p x y
theorem TE {k n a p l}(hk:n<k)(bI:l.length<k)(hn:n≤1000)(hx:L4 n a p)(hl:vW n l){i}(hi:i<n)(b0:List qO) b1 b2 b3 b m
  {a0 p0} (h0:TD n a p l i 0 a0 p0):∃a' p',C4 k k l i 0 b0 b1 b2 b3 a0 b m p0=some (l,(i:Int),b0,b1,b2,b3,a',b,m,p')∧TD n a p l i n a' p':=by
 obtain ⟨s, h1, h2⟩ := vC (L := fun c j (s : List qO × EQ) => C4 k c l i j b0 b1 b2 b3 s.1 b m s.2) (N := n) (fun s => (l, (i : Int), b0, b1, b2, b3, s.1, b, m, s.2)) (fun j s => TD n a p l i j s.1 s.2) (fun c s hs=>by
   show C5 k _ l i n b0 b1 b2 b3 s.1 b m s.2=_
   unfold C5
   simp only [qB, hs.al, ab (Nat.lt_irrefl _), aj]) (fun c j s hj hs=>by
   refine⟨(s.1.set i (zA ((s.1.getD i ad).1-(zP (gS i j) l-zP (gS j i) l)),(s.1.getD i ad).2),s.2.set i ((s.2.getD i []).set j (zA ((s.2.getD i []).getD j 0+(zP (gS i j) l-zP (gS j i) l))))),?_,?_⟩
   ·show C5 k _ l i j b0 b1 b2 b3 s.1 b m s.2=_
    unfold C5
    simp only[qG,qK hj (by grind),qB,aq,hs.al,hs.pl,hs.pr i hi,aa hi,aa hj,ai,vUf bI hl,ae]
   ·have hb:=hx.bal i hi
    have hg:∀j,-70368744177664≤zP (gS i j) l-zP (gS j i) l∧zP (gS i j) l-zP (gS j i) l≤70368744177664:=fun j=>by
     have h1:=sL hl i j
     have h2:=sL hl j i
     omega
    have BO:=uK hg j
    have Cd:=hg j
    have oH:=hx.net i hi j hj
    have hc:=hs.cell i hi j hj
    rw[if_neg (by omega)] at hc
    refine⟨by simp only[List.length_set];exact hs.al,fun x iN uT=>?_,?_,fun x iN uT=>?_,by simp only[List.length_set];exact hs.pl,L5 hs.pl hs.pr hi,fun x iN y H4=>?_⟩
    ·rw[jM,if_neg (by grind)]
     exact hs.done x iN uT
    ·rw[jM,if_pos ⟨rfl,by rw[hs.al];exact hi⟩,hs.here]
     dsimp only
     rw[zQ (by omega) (by omega)]
     show(_,_)=((a.getD i ad).1-(qJ _ j+_),_)
     grind
    ·rw[jM,if_neg (by grind)]
     exact hs.rest x iN uT
    ·have e:(s.2.getD i []).getD j 0=cell p i j:=hc
     rw[TA (by rw[hs.pl];exact hi) (by rw[hs.pr i hi];exact hj),e]
     by_cases Ma:x=i∧y=j
     ·obtain⟨rfl,rfl⟩:=Ma
      rw[if_pos ⟨rfl,rfl⟩,if_pos (by omega),zQ (by omega) (by omega)]
      omega
     ·rw[if_neg Ma,hs.cell x iN y H4]
      omega) (s:=(a0,p0)) hk h0
 grind
theorem vY8 {k n a b m p l}(hk:n<k)(bI:l.length<k)(hn:n≤1000)(hx:L4 n a p)(hl:vW n l)(b0:List qO) b1 b2 b3:
  ∃a' p',C6 k k l 0 b0 b1 b2 b3 a b m p=some (b0,b1,b2,b3,a',b,m,p')∧sM n a p l a' p':=by
 obtain ⟨s, h1, h2⟩ := vC (L := fun c i (s : List qO × EQ) => C6 k c l i b0 b1 b2 b3 s.1 b m s.2) (N := n) (fun s => (b0, b1, b2, b3, s.1, b, m, s.2)) (fun i s => vKr n a p l i s.1 s.2) (fun c s hs=>by
   show C7 k _ l n b0 b1 b2 b3 s.1 b m s.2=_
   unfold C7
   simp only [qB, hs.al, ab (Nat.lt_irrefl _), aj]) (fun c i s hi hs=>by
   have hai:=hs.rest i hi (by simp)
   have hr:=hx.res i hi
   have hsp:=yv hl i
   obtain⟨a',p',h1,h2⟩:=TE (a0:=s.1.set i ((s.1.getD i ad).1,((s.1.getD i ad).2.1,wN (s.1.getD i ad).2.2 (zP (gR i) l)))) (p0:=s.2) hk bI hn hx hl hi b0 b1 b2 b3 b m ⟨by rw[List.length_set];exact hs.al,fun x iN uT=>by
     rw[jM,if_neg (by grind)];exact hs.done x iN uT,by
     rw[jM,if_pos ⟨rfl,by rw[hs.al];exact hi⟩,hai]
     show _=((a.getD i ad).1-0,_,_)
     simp,fun x iN uT=>by
     rw[jM,if_neg (by grind)];exact hs.rest x iN (by omega),hs.pl,hs.pr,fun x iN y H4=>by
     rw[hs.cell x iN y H4]
     omega⟩
   refine⟨(a',p'),?_,?_⟩
   ·show C7 k _ l i b0 b1 b2 b3 s.1 b m s.2=_
    unfold C7
    have hK:=yW8 k (s.1.getD i ad).1 (s.1.getD i ad).2.1 (s.1.getD i ad).2.2 (zP (gR i) l) (by grind) (by grind) hsp.1
    simp only[qG,qB,aq,hs.al,aa hi,ai,vXt bI hl,ae]
    rw[hK]
    simp only[ae]
    rw[h1]
    simp only[ae,qK hi (by grind)]
   ·refine⟨h2.al,fun x iN uT=>?_,fun x iN uT=>h2.rest x iN (by omega),h2.pl,h2.pr,fun x iN y H4=>?_⟩
    ·by_cases h:x<i
     ·exact h2.done x iN h
     ·have:x=i:=by omega
      subst this
      rw[h2.here,yOf hl.1 x iN]
      simp
    ·rw[h2.cell x iN y H4]
     omega) (s:=(a,p)) hk ⟨hx.al,by simp,by simp,hx.pl,hx.pr,by simp⟩
 exact⟨s.1,s.2,h1,h2.al,fun i hi=>h2.done i hi hi,h2.pl,h2.pr,fun i hi j hj=>by rw[h2.cell i hi j hj,if_pos hi]⟩
def qd (a:List qO)(b:EQ)(m:AC)(p:EQ)(l:List zE)(r:List qO×EQ×AC×EQ×Int):Prop:=
 (vW a.length l→∃a' p',sM a.length a p l a' p'∧r=(bif lQ a' b m p' then(a',b,m,p',0) else(a,b,m,p,8)))∧(¬vW a.length l→r=(a,b,m,p,1))
theorem Mb {k}(hk:100<k){a b m p}{l:List zE}(h:wM a b m p)(hl:l.length≤80):∃r,oI k a b m p l=some r∧qd a b m p l r:=by
 unfold oI qd
 have e:decide (((l.length:Nat):Int)>64)=decide (¬l.length≤64):=by
  grind
 rw[e]
 by_cases bU:l.length≤64
 case neg=>
  rw[aa bU]
  exact⟨_,rfl,fun e=>absurd e.2 bU,by simp⟩
 rw[ab (by omega),vUz (by omega) (by omega)]
 cases hm:mF a.length l with
 |false=>
  refine⟨_,rfl,fun e=>?_,by simp⟩
  rw[yu.2 e.1] at hm
  cases hm
 |true=>
  have aW:vW a.length l:=⟨yu.1 hm,bU⟩
  simp only[HS (show 10<k by omega) h.toSized,ae]
  obtain⟨a',p',h1,h2⟩:=vEi (b:=b) (m:=m) (show l.length<k by omega) h.nums aW a b m p
  rw[h1]
  simp only[ae,vT0 (show 10<k by omega)]
  cases hB:lQ a' b m p' with
  |true=>exact⟨_,rfl,by grind,by grind⟩
  |false=>exact⟨_,rfl,by grind,by grind⟩
theorem vVd {k}(hk:100<k){a b m p}{l:List zE}(h:wM a b m p)(hl:l.length≤80):∃r,yw k a b m p l=some r∧qd a b m p l r:=by
 unfold yw qd
 rw[vBp (by omega) (by omega)]
 cases hm:mF a.length l with
 |false=>
  refine⟨_,rfl,fun e=>?_,by simp⟩
  rw[yu.2 e.1] at hm
  cases hm
 |true=>
  by_cases bU:l.length≤64
  case neg=>
   rw[ab bU]
   exact⟨_,rfl,fun e=>absurd e.2 bU,by simp⟩
  have aW:vW a.length l:=⟨yu.1 hm,bU⟩
  have h6:=h.n6
  rw[aa bU]
  simp only[HR (show 10<k by omega) h.toSized,ae]
  obtain⟨a',p',h1,h2⟩:=vY8 (b:=b) (m:=m) (show a.length<k by omega) (by grind) (by omega) h.nums aW a b m p
  rw[h1]
  simp only[ae,vC5 (show 10<k by omega)]
  cases hB:lQ a' b m p' with
  |true=>exact⟨_,rfl,by grind,by grind⟩
  |false=>exact⟨_,rfl,by grind,by grind⟩
theorem qd.same {a b m p l r r'}(h:qd a b m p l r)(h':qd a b m p l r'):r=r':=by
 by_cases c:vW a.length l
 ·obtain⟨a1,p1,x,rfl⟩:=h.1 c
  obtain⟨a2,p2,y,rfl⟩:=h'.1 c
  obtain⟨rfl,rfl⟩:=x.same y
  rfl
 ·rw[h.2 c,h'.2 c]
theorem vOl {k n i p}(hk:n<k)(hn:n≤100)(hi:i<n)(hp:p.length=n)(hr:(p.getD i []).length=n)(hb:∀j,-72057594037927936≤cell p i j∧cell p i j≤72057594037927936)(a:List qO) b m:
  Md k a b m p i=some (qJ (cell p i) n):=by
 obtain ⟨s, h1, h2⟩ := vC (L := fun c j (s : Int) => C8 k c i s j a b m p) (N := n) (fun s => s) (fun j s => s = qJ (cell p i) j) (fun c s hs=>by
   show C9 k _ i s n a b m p=_
   unfold C9
   simp only [qG, qB, aq, hp, hr, aa hi, ab (Nat.lt_irrefl _), aj, ai]) (fun c j s hj hs=>by
   refine⟨qJ (cell p i) (j+1),?_,rfl⟩
   show C9 k _ i s j a b m p=_
   have h1:=uK hb j
   have h2:=hb j
   unfold C9
   simp only[qG,qK hj (by grind),qB,aq,hp,hr,aa hi,aa hj]
   show C8 k c i (zA (s+cell p i j)) _ a b m p=_
   rw[hs,zQ (by omega) (by omega)]
   rfl) (s:=0) hk rfl
 unfold Md
 simp_all
theorem Me {a b m p}(hb:wM a b m p){i}(hi:i<a.length) j:-72057594037927936≤cell p i j∧cell p i j≤72057594037927936:=by
 by_cases hj:j<a.length
 ·have:=hb.net i hi j hj
  simp[gz] at this
  omega
 ·have:cell p i j=0:=by
   unfold cell
   rw[List.getD_eq_getElem?_getD,List.getElem?_eq_none]
   ·rfl
   ·rw[hb.pr i hi];omega
  omega
theorem Mh {S X:Type}{L:Nat→Int→S→Option X}{N:Nat}(ok:Nat→Bool)(e:S→X)(b:X)(inv:Nat→S→Prop)(bF:∀n s,inv N s→L (n+1) (N:Int) s=some (e s))
  (aM:∀n i s,i<N→inv i s→(ok i=true→∃s',L (n+1) (i:Int) s=L n ((i+1:Nat):Int) s'∧inv (i+1) s')∧(ok i=false→L (n+1) (i:Int) s=some b)):
  ∀c i n s,i+c=N→c<n→inv i s→(qH ok c i=true∧∃s',L n (i:Int) s=some (e s')∧inv N s')∨(qH ok c i=false∧L n (i:Int) s=some b)
 |0,i,n,s,h,hn,hs=>by
  obtain⟨n,rfl⟩:∃m,n=m+1:=⟨n-1,by omega⟩
  have:i=N:=by omega
  subst this
  exact .inl ⟨rfl,s,bF n s hs,hs⟩
 |c+1,i,n,s,h,hn,hs=>by
  obtain⟨n,rfl⟩:∃m,n=m+1:=⟨n-1,by omega⟩
  obtain⟨h1,h2⟩:=aM n i s (by omega) hs
  unfold qH
  cases ho:ok i with
  |true=>
   obtain⟨s',h3,h4⟩:=h1 ho
   rw[h3]
   simp only[Bool.true_and]
   exact Mh ok e b inv bF aM c (i+1) n s' (by omega) (by omega) h4
  |false=>exact .inr ⟨rfl,h2 ho⟩
def dS (l:List zE)(i j:Nat):Int:=zP (gS i j) l-zP (gS j i) l
def qe (b p:EQ)(l:List zE)(i j:Nat):Bool:= !(decide (zP (gS i j) l>0)&&(!decide (cell b i j= -1)&&decide (cell p i j+dS l i j>cell b i j)))
def wX (a:List qO)(b:EQ)(m:AC)(p:EQ)(l:List zE)(i:Nat):Bool:=
 !decide (zP (gN i) l + zP (gR i) l = 0) && (!qH (qe b p l i) a.length 0 || (decide ((a.getD i ad).1+(a.getD i ad).2.1+zP (gB i) l<0)||
  ((decide (zP (gN i) l>0)&&decide ((a.getD i ad).1+(a.getD i ad).2.1+zP (gB i) l<wN (a.getD i ad).2.2 (zP (gR i) l)))||
   (!decide (m.getD i 0= -1)&&decide (qJ (cell p i) a.length-zP (gB i) l>m.getD i 0)))))
theorem Da {n:Nat}{l:List zE}(hl:vW n l)(i j:Nat):-70368744177664≤dS l i j∧dS l i j≤70368744177664:=by
 have h1:=sL hl i j
 have h2:=sL hl j i
 unfold dS
 omega
theorem vFm {k:Nat}{a:List qO}{b:EQ}{m:AC}{p:EQ}{l:List zE}(hk:100<k)(hb:wM a b m p)(hl:vW a.length l){i:Nat}(hi:i<a.length)(x y n0 dH:Int)
  (GA:-6917529027641081856≤n0∧n0≤6917529027641081856) (oH:-576460752303423488≤dH∧dH≤576460752303423488):
  qf k k l i x y n0 dH 0 a b m p=some (bif qH (qe b p l i) a.length 0 then .inl ((i:Int),x,y,n0-qJ (dS l i) a.length,dH+qJ (dS l i) a.length,a,b,m,p) else .inr true):=by
 have h6:=hb.n6
 have bI:l.length<k:=by have:=hl.2;omega
 have := Mh (L := fun c j (s : Int × Int) => qf k c l i x y s.1 s.2 j a b m p) (N := a.length) (qe b p l i) (fun s => .inl ((i : Int), x, y, s.1, s.2, a, b, m, p)) (.inr true) (fun j s => s = (n0 - qJ (dS l i) j, dH + qJ (dS l i) j)) (fun c s hs=>by
   show Db k _ l i x y s.1 s.2 a.length a b m p=_
   unfold Db
   simp only [qB, ab (Nat.lt_irrefl _), aj]) (fun c j s hj hs=>by
   have BO:=uK (fun j=>Da hl i j) j
   have Cd:=Da hl i j
   have hj1:(j:Int)*70368744177664≤6*70368744177664:=by omega
   have oH:=hb.nums.net i hi j hj
   have e1:qf k (c+1) l i x y s.1 s.2 j a b m p=bif qe b p l i j then qf k c l i x y (n0-qJ (dS l i) (j+1)) (dH+qJ (dS l i) (j+1)) ((j+1:Nat):Int) a b m p else some (.inr true):=by
    show Db k _ l i x y s.1 s.2 j a b m p=_
    unfold Db
    simp only[qG,qK hj (show a.length<9223372036854775808 by omega),qB,aq,aa hi,aa hj,ai,TC bI hl,ae,hb.bl,hb.br i hi,hb.pl,hb.pr i hi]
    have ed:zA (zP (gS i j) l-zP (gS j i) l)=dS l i j:=zQ (by have:=Cd.1;unfold dS at this;omega) (by have:=Cd.2;unfold dS at this;omega)
    rw[ed]
    have e2:zA (s.1-dS l i j)=n0-qJ (dS l i) (j+1):=by
     rw[hs]
     show zA (n0-qJ (dS l i) j-dS l i j)=n0-(qJ (dS l i) j+dS l i j)
     rw[zQ (by omega) (by omega)]
     omega
    have e3:zA (s.2+dS l i j)=dH+qJ (dS l i) (j+1):=by
     rw[hs]
     show zA (dH+qJ (dS l i) j+dS l i j)=dH+(qJ (dS l i) j+dS l i j)
     rw[zQ (by omega) (by omega)]
     omega
    rw[e2,e3]
    show(bif decide (zP (gS i j) l>0) then(bif !decide (cell b i j= -1) then(bif decide (zA (cell p i j+dS l i j)>cell b i j) then _ else _) else _) else _)=_
    rw[zQ (x:=cell p i j+dS l i j) (by omega) (by omega)]
    unfold qe
    cases decide (zP (gS i j) l>0)<;>cases decide (cell b i j= -1)<;>cases decide (cell p i j+dS l i j>cell b i j)<;>rfl
   refine⟨fun ho=>⟨_,?_,rfl⟩,fun ho=>?_⟩
   ·rw[e1,ho];rfl
   ·rw [e1, ho]; rfl) a.length 0 k (n0, dH) (by omega) (by omega) (by
    show(n0,dH)=(n0-0,dH+0)
    rw[Int.sub_zero,Int.add_zero])
 rcases this with⟨h1,s,h2,h3⟩|⟨h1,h2⟩
 ·have Mi:qf k k l i x y n0 dH 0 a b m p=_:=h2
  rw[Mi,h1,h3]
  rfl
 ·have Mi:qf k k l i x y n0 dH 0 a b m p=_:=h2
  rw[Mi,h1]
  rfl
theorem yL5 {n:Nat}{l:List zE}(hl:∀p∈l,yG n p)(i:Nat)(hi:i<n):qJ (dS l i) n= -zP (gB i) l:=yOf hl i hi
theorem yLe {k:Nat}{a:List qO}{b:EQ}{m:AC}{p:EQ}{l:List zE}(hk:100<k)(hb:wM a b m p)(hl:vW a.length l){i:Nat}(hi:i<a.length):Mj k a b m p l i=some (wX a b m p l i):=by
 have h6:=hb.n6
 have bI:l.length<k:=by have:=hl.2;omega
 have hN:=qY6 hl i
 have hR:=yv hl i
 have hB:=L3 hl i
 have hx:=hb.acct i hi
 simp only[jU,aR,aN] at hx
 have oJ:-4611686018427387904<(a.getD i ad).1∧(a.getD i ad).1<4611686018427387904∧0≤(a.getD i ad).2.1∧(a.getD i ad).2.1≤2305843009213693952∧0≤(a.getD i ad).2.2∧(a.getD i ad).2.2≤2305843009213693952:=⟨hx.1,hx.2.1,hx.2.2.1,hx.2.2.2.1,hx.2.2.2.2.1,hx.2.2.2.2.2⟩
 have oH:=uK (Me hb hi) a.length
 have BP:(a.length:Int)*72057594037927936≤6*72057594037927936:=by omega
 unfold Mj
 rw[yF7 bI hl]
 simp only[ae]
 rw[zQ (x:=zP (gN i) l+zP (gR i) l) (by omega) (by omega)]
 unfold wX
 cases hz:decide (zP (gN i) l+zP (gR i) l=0) with
 |true=>rfl
 |false=>
  rw[qG,aa hi]
  simp only[ai,aj,aq]
  rw[vOl (by omega) (by omega) hi hb.pl (hb.pr i hi) (Me hb hi)]
  simp only[ae]
  rw[zQ (x:=(a.getD i (0,(0,0))).1+(a.getD i (0,(0,0))).2.1) (by omega) (by omega)]
  rw[vFm hk hb hl hi _ _ _ _ (by omega) (by omega),yL5 hl.1 i hi]
  simp only[Int.sub_neg]
  cases qH (qe b p l i) a.length 0 with
  |false=>rfl
  |true=>
   have hK:=yW8 k (a.getD i ad).1 (a.getD i ad).2.1 (a.getD i ad).2.2 (zP (gR i) l) (by omega) (by omega) hR.1
   simp only[ai,ae,bx,ay,Bool.true_and,Bool.false_or,qG,aq,aa hi,hb.ml]
   show(bif decide ((a.getD i ad).1+(a.getD i ad).2.1+zP (gB i) l<0) then _ else bif decide (zP (gN i) l>0) then(C3 k (a.getD i ad).1 (a.getD i ad).2.1 (a.getD i ad).2.2 (zP (gR i) l)).bind _ else _)=_
   rw[hK]
   simp only[ae]
   have en:qJ (cell p i) a.length+-zP (gB i) l=qJ (cell p i) a.length-zP (gB i) l:=by omega
   rw[en]
   cases decide ((a.getD i ad).1+(a.getD i ad).2.1+zP (gB i) l<0)<;>cases decide (zP (gN i) l>0)<;>cases decide ((a.getD i ad).1+(a.getD i ad).2.1+zP (gB i) l<wN (a.getD i ad).2.2 (zP (gR i) l))<;>cases decide (m.getD i 0= -1)<;>rfl
theorem vNf {k:Nat}{a:List qO}{b:EQ}{m:AC}{p:EQ}{l:List zE}(hk:100<k)(hb:wM a b m p)(hl:vW a.length l):∃r,sN k a b m p l=some r∧(r=[]↔qH (fun i=> !wX a b m p l i) a.length 0=true):=by
 have h6:=hb.n6
 obtain ⟨r, h1, h2⟩ := vC (L := fun c i (r : AC) => sO k c l i a b m p r) (N := a.length) (fun r => r) (fun i r => (r = [] ↔ ∀ j, j < i → wX a b m p l j = false) ∧ r.length ≤ i) (fun c r hr=>by
   show qg k _ l a.length a b m p r=_
   unfold qg
   simp only [qB, ab (Nat.lt_irrefl _), aj]) (fun c i r hi hr=>by
   have aQ:zO (r.length+1) 8=true:=qT (by omega) (by omega)
   have e:sO k (c+1) l i a b m p r=sO k c l ((i+1:Nat):Int) a b m p (bif wX a b m p l i then r++[(i:Int)] else r):=by
    show qg k _ l i a b m p r=_
    unfold qg
    simp only[qK hi (show a.length<9223372036854775808 by omega),qB,aa hi,ai,yLe hk hb hl hi,ae,aQ]
    cases wX a b m p l i<;>rfl
   refine⟨_,e,?_⟩
   cases hs:wX a b m p l i with
   |true=>
    refine⟨⟨fun h=>?_,fun h=>?_⟩,by simp only[ai,List.length_append,List.length_cons,List.length_nil];omega⟩
    ·simp at h
    ·rw[h i (Nat.lt_succ_self i)] at hs;cases hs
   |false=>
    refine⟨⟨fun h j hj=>?_,fun h=>?_⟩,by simp only[aj];omega⟩
    ·by_cases c:j=i
     ·subst c;exact hs
     ·exact hr.1.1 h j (by omega)
    ·exact hr.1.2 fun j hj=>h j (by omega)) (s:=[]) (show a.length<k by omega) ⟨⟨fun _ j hj=>absurd hj (Nat.not_lt_zero j),fun _=>rfl⟩,Nat.le_refl 0⟩
 unfold sN
 rw[h1]
 refine⟨r,rfl,h2.1.trans ?_⟩
 rw[fZ]
 exact⟨fun h j hj=>by rw[h j hj];rfl,fun h j hj=>by have:=h j hj;simpa using this⟩
def uU (a:List qO)(b:EQ)(m:AC)(p:EQ)(l:List zE):Bool:=(mF a.length l&&decide (l.length≤64))&&qH (fun i=> !wX a b m p l i) a.length 0
theorem vI2 {k:Nat}{a:List qO}{b:EQ}{m:AC}{p:EQ}{l:List zE}(hk:100<k)(hb:wM a b m p)(hl:l.length≤80):H5 k a b m p l=some (uU a b m p l):=by
 unfold H5 uU
 rw[vBp (by omega) (by omega)]
 simp only[ae]
 cases hm:(mF a.length l&&decide (l.length≤64)) with
 |false=>rfl
 |true=>
  simp only[aR,aN] at hm
  obtain⟨r,h1,h2⟩:=vNf hk hb ⟨yu.1 hm.1,hm.2⟩
  simp only[ai,h1,ae,Bool.true_and]
  congr 1
  cases hr:qH (fun i=> !wX a b m p l i) a.length 0 with
  |true=>
   have:=h2.2 hr
   subst this
   rfl
  |false=>
   apply ab
   intro h
   have:r=[]:=List.length_eq_zero_iff.1 (by omega)
   rw[h2.1 this] at hr
   cases hr
theorem vWi {k n i p}(hk:n<k)(hn:n≤100)(hi:i<n)(hp:p.length=n)(hr:(p.getD i []).length=n)(hb:∀j,-72057594037927936≤cell p i j∧cell p i j≤72057594037927936)(a:List qO) b m:
  Mk k a b m p i=some (qJ (cell p i) n):=by
 obtain ⟨s, h1, h2⟩ := vC (L := fun c j (s : Int) => Dc k c s (p.getD i []) n j) (N := n) (fun s => s) (fun j s => s = qJ (cell p i) j) (fun c s hs=>by
   show Dd k _ s (p.getD i []) n n=_
   unfold Dd
   simp) (fun c j s hj hs=>by
   refine⟨qJ (cell p i) (j+1),?_,rfl⟩
   show Dd k _ s (p.getD i []) n j=_
   have h1:=uK hb j
   have h2:=hb j
   unfold Dd
   simp only[qG,qK hj (by grind),qB,hr,aa hj]
   show Dc k c (zA (s+cell p i j)) _ _ _=_
   rw[hs,zQ (by omega) (by omega)]
   rfl) (s:=0) hk rfl
 unfold Mk
 simp[qG]
 simp_all
theorem yBg k {n:Nat}(hn:n≤6):H6 k n=some true:=by
 unfold H6
 grind
theorem yFx {α:Type}(v z:α) n i (hi:i<n):(List.replicate i v++List.replicate (n-i) z).set i v=List.replicate (i+1) v++List.replicate (n-(i+1)) z:=by
 have e:List.replicate (n-i) z=z::List.replicate (n-(i+1)) z:=by
  rw[show n-i=(n-(i+1))+1 by omega];rfl
 rw[List.set_append_right _ _ (by simp),List.length_replicate,Nat.sub_self,e]
 simp[List.replicate_succ']
theorem yQw {k n}(hk:n<k)(hn:n≤6) v:yx k n v=some (List.replicate n v):=by
 unfold yx
 rw[yBg k hn]
 obtain ⟨s, h1, h2⟩ := vC (L := fun c i (s : AC) => H7 k c v n i s) (N := n) (fun s => s) (fun i s => s = List.replicate i v ++ List.replicate (n - i) 0) (fun c s hs=>by
   show De k _ v n n s=_
   unfold De
   simp) (fun c i s hi hs=>by
   refine⟨_,?_,rfl⟩
   show De k _ v n i s=_
   have hl:s.length=n:=by grind
   unfold De
   simp[qG,qK hi (by grind),aa hi,hl]
   rw[hs,yFx v 0 n i hi]) (s:=List.replicate n 0) hk (by simp)
 grind
theorem vCq {k n}(hk:n<k)(hn:n≤6) v:Df k n v=some (List.replicate n (List.replicate n v)):=by
 unfold Df
 rw[yBg k hn]
 obtain ⟨s, h1, h2⟩ := vC (L := fun c i (s : EQ) => H8 k c n v n i s) (N := n) (fun s => s) (fun i s => s = List.replicate i (List.replicate n v) ++ List.replicate (n - i) []) (fun c s hs=>by
   show Dg k _ n v n n s=_
   unfold Dg
   simp) (fun c i s hi hs=>by
   refine⟨_,?_,rfl⟩
   show Dg k _ n v n i s=_
   have hl:s.length=n:=by grind
   unfold Dg
   simp[qG,qK hi (by grind),aa hi,hl,yQw hk hn]
   rw[hs,yFx (List.replicate n v) [] n i hi]) (s:=List.replicate n []) hk (by simp)
 grind
def sP (a:List qO)(b:EQ)(m:AC)(p:EQ)(l:List zE):AC:=((List.range a.length).filter fun i=>wX a b m p l i).map fun(i:Nat)=>(i:Int)
structure Mm (n:Nat) (l:List zE) (r2 r3:AC) (m4:EQ):Prop where
 l2:r2.length=n
 l3:r3.length=n
 l4:m4.length=n
 r4:∀i,i<n→(m4.getD i []).length=n
 more:∀i,i<n→r2.getD i 0=zP (gB i) l
 spent:∀i,i<n→r3.getD i 0=zP (gR i) l
 sent:∀i,i<n→∀j,j<n→cell m4 i j=dS l i j
def H9 (p:zE)(r:AC):AC:=
 let y0:=r.set p.2.1.toNat (zA (r.getD p.2.1.toNat 0-p.2.2.2.1))
 y0.set p.2.2.1.toNat (zA (y0.getD p.2.2.1.toNat 0+p.2.2.2.1))
def Ia (p:zE)(r:AC):AC:=bif !decide (p.2.2.2.2.1=3) then r.set p.2.1.toNat (zA (r.getD p.2.1.toNat 0+p.2.2.2.1)) else r
theorem vUq {n:Nat}{p:zE}(h:yG n p){r:AC}(hr:r.length=n){i:Nat}(hi:i<n)(hb:∀i,i<n→-4611826755915743232<r.getD i 0∧r.getD i 0<4611826755915743232):(H9 p r).getD i 0=r.getD i 0+gB i p:=by
 obtain⟨f0,f1,t0,t1,ne,a1,a2,c1,c3⟩:=h
 obtain⟨f,hf⟩:∃f:Nat,p.2.1=f:=⟨p.2.1.toNat,by omega⟩
 obtain⟨t,ht⟩:∃t:Nat,p.2.2.1=t:=⟨p.2.2.1.toNat,by omega⟩
 have L6:f≠t:=by omega
 have gA:f<n:=by omega
 have ga:t<n:=by omega
 unfold H9 gB
 simp only[hf,ht,aq]
 have b1:=hb f gA
 have b2:=hb t ga
 have key:∀x,(r.set f (zA (r.getD f 0-p.2.2.2.1))).getD x 0=if f=x then zA (r.getD f 0-p.2.2.2.1) else r.getD x 0:=fun x=>by
  rw[jM]
  by_cases e:f=x
  ·rw[if_pos ⟨e,by omega⟩,if_pos e]
  ·rw[if_neg (fun h=>e h.1),if_neg e]
 rw[jM,List.length_set,key t,if_neg L6,key i]
 by_cases h1:t=i
 ·subst h1
  rw[if_pos ⟨rfl,by omega⟩,if_pos rfl,if_neg (by omega),zQ (by omega) (by omega)]
  omega
 ·rw[if_neg (fun e=>h1 e.1),if_neg (c:=((t:Int)=i)) (by omega)]
  by_cases h2:f=i
  ·subst h2
   rw[if_pos rfl,if_pos rfl,zQ (by omega) (by omega)]
   omega
  ·rw[if_neg h2,if_neg (by omega)]
   omega
theorem vZj {n:Nat}{p:zE}(h:yG n p){r:AC}(hr:r.length=n){i:Nat}(hi:i<n)(hb:∀i,i<n→-4611826755915743232<r.getD i 0∧r.getD i 0<4611826755915743232):(Ia p r).getD i 0=r.getD i 0+gR i p:=by
 obtain⟨f0,f1,t0,t1,ne,a1,a2,c1,c3⟩:=h
 obtain⟨f,hf⟩:∃f:Nat,p.2.1=f:=⟨p.2.1.toNat,by omega⟩
 have gA:f<n:=by omega
 have b1:=hb f gA
 unfold Ia gR
 simp only[hf,aq]
 by_cases hc:p.2.2.2.2.1=3
 ·rw[aa hc,if_neg (fun e=>e.2 hc)]
  simp
 ·rw[ab hc]
  simp only[bx,ai]
  rw[jM]
  by_cases h2:f=i
  ·subst h2
   rw[if_pos ⟨rfl,by omega⟩,if_pos ⟨rfl,hc⟩,zQ (by omega) (by omega)]
  ·rw[if_neg (fun e=>h2 e.1),if_neg (fun e=>h2 (by omega))]
   omega
theorem vCe (l:List zE)(p:zE)(i j:Nat):dS (l++[p]) i j=dS l i j+gS i j p-gS j i p:=by
 unfold dS
 rw[la,la]
 dsimp only[zP]
 omega
theorem Ib {α:Type}(n i:Nat)(v d:α)(h:i<n):(List.replicate n v).getD i d=v:=by
 simp[List.getD,h]
theorem vXh {k n:Nat}{l:List zE}(hk:100<k)(hn:n≤6)(hl:vW n l):∃r2 r3 m4,Mn k n l=some (r2,r3,m4)∧Mm n l r2 r3 m4:=by
 have mG:=hl.2
 have := vC (L := fun c i (s : AC × AC × EQ) => Dh k c l l.length i s.1 s.2.1 s.2.2) (N := l.length) (fun s => s) (fun i s => Mm n (l.take i) s.1 s.2.1 s.2.2) (fun c s hs=>by
   show Dl k _ l l.length l.length s.1 s.2.1 s.2.2=_
   unfold Dl
   simp only [qB, ab (Nat.lt_irrefl _), aj]) (fun c i s hi hs=>by
   have bS:yG n (l.getD i pd):=hl.1 _ (jV hi)
   refine⟨(H9 (l.getD i pd) s.1,Ia (l.getD i pd) s.2.1,uQ (l.getD i pd) s.2.2),?_,?_⟩
   ·show Dl k _ l l.length i s.1 s.2.1 s.2.2=_
    unfold Dl H9 Ia uQ
    simp only[qG,qK hi (show l.length<9223372036854775808 by omega),qB,aq,aa hi,ai]
    obtain⟨f0,f1,t0,t1,ne,a1,a2,c1,c3⟩:=bS
    obtain⟨f,hf⟩:∃f:Nat,(l.getD i pd).2.1=f:=⟨(l.getD i pd).2.1.toNat,by omega⟩
    obtain⟨t,ht⟩:∃t:Nat,(l.getD i pd).2.2.1=t:=⟨(l.getD i pd).2.2.1.toNat,by omega⟩
    have gA:f<n:=by omega
    have ga:t<n:=by omega
    have r1:=L5 (x:=zA ((s.2.2.getD f []).getD t 0+(l.getD i pd).2.2.2.1)) (t:=t) hs.l4 hs.r4 gA
    simp only[hf,ht,aq,qG,hs.l2,hs.l3,hs.l4,List.length_set,hs.r4 f gA,r1 t ga,aa gA,aa ga,ai]
    cases decide ((l.getD i pd).2.2.2.2.1=3)<;>rfl
   ·have aW:=hl.take i
    have hp := vBr bS hs.l4 hs.r4 (fun i' bV j' lF=>by
     rw[hs.sent i' bV j' lF]
     have:=Da aW i' j'
     omega)
    have hbM:∀i',i'<n→-4611826755915743232<s.1.getD i' 0∧s.1.getD i' 0<4611826755915743232:=fun i' bV=>by
     rw[hs.more i' bV];have:=L3 aW i';omega
    have hbS:∀i',i'<n→-4611826755915743232<s.2.1.getD i' 0∧s.2.1.getD i' 0<4611826755915743232:=fun i' bV=>by
     rw[hs.spent i' bV];have:=yv aW i';omega
    refine⟨by unfold H9;simp[hs.l2],by unfold Ia;cases decide ((l.getD i pd).2.2.2.2.1=3)<;>simp[hs.l3],hp.1,hp.2.1,fun i' bV=>?_,fun i' bV=>?_,fun i' bV j' lF=>?_⟩
    ·rw[vUq bS hs.l2 bV hbM,hs.more i' bV,←fL l i pd hi,la]
     dsimp only[zP]
     omega
    ·rw[vZj bS hs.l3 bV hbS,hs.spent i' bV,←fL l i pd hi,la]
     dsimp only[zP]
     omega
    ·rw[hp.2.2 i' bV j' lF,hs.sent i' bV j' lF,←fL l i pd hi,vCe]) (n:=k) (s:=(List.replicate n 0,List.replicate n 0,List.replicate n (List.replicate n 0))) (by omega) ⟨by simp,by simp,by simp,fun i hi=>by rw[Ib n i _ _ hi];simp,fun i hi=>by rw[Ib n i _ _ hi];rfl,fun i hi=>by rw[Ib n i _ _ hi];rfl,fun i hi j hj=>by
    unfold cell
    rw[Ib n i _ _ hi,Ib n j _ _ hj]
    rfl⟩
 obtain⟨s,h1,h2⟩:=this
 rw[List.take_of_length_le (Nat.le_refl _)] at h2
 refine⟨s.1,s.2.1,s.2.2,?_,h2⟩
 unfold Mn
 rw[yQw (by omega) hn,vCq (by omega) hn]
 simp only[ae]
 have df:Dh k k l l.length 0 (List.replicate n 0) (List.replicate n 0) (List.replicate n (List.replicate n 0))=some s:=h1
 rw[df]
 rfl
theorem vFt {k:Nat}{l:List zE}(hk:l.length<k)(hl:l.length<9223372036854775808)(i:Int):Mo k l i=some (!qH (fun x=> !decide ((l.getD x pd).2.1=i)) l.length 0):=by
 obtain ⟨x, h1, h2⟩ := uI (L := fun c x => Ic k c l l.length x i) (N := l.length) (fun x => decide ((l.getD x pd).2.1 = i)) (fun c=>by
   show Dm k _ l l.length l.length i=_
   unfold Dm
   simp only [qB, ab (Nat.lt_irrefl _), aj]) (fun c x hx=>by
   show Dm k _ l l.length x i=_
   unfold Dm TF
   simp only[qG,qK hx hl,qB,aq,aa hx,ai,ae]) hk
 unfold Mo TG
 rw[h1]
 rw[←h2]
 cases x<;>rfl
theorem qY9 {n:Nat}{l:List zE}(hl:∀p∈l,yG n p)(i:Nat):qH (fun x=> !decide ((l.getD x pd).2.1=i)) l.length 0=decide (zP (gN i) l+zP (gR i) l=0):=by
 have hN:=uJ (g:=gN i) (l:=l) fun p hp=>(L8 (hl p hp) i).1
 have hR:=uJ (g:=gR i) (l:=l) fun p hp=>(L1 (hl p hp) i).1
 have e:zP (gN i) l+zP (gR i) l=zP (fun p:zE=>if p.2.1=(i:Int) then p.2.2.2.1 else 0) l:=by
  rw[←yAr]
  refine Ly fun p hp=>?_
  unfold gN gR
  by_cases h1:p.2.1=i<;>by_cases h2:p.2.2.2.2.1=3<;>simp[h1,h2]
 rw[e]
 have h:∀(l:List zE),(∀p∈l,yG n p)→((∀p∈l,¬p.2.1=i)↔zP (fun p:zE=>if p.2.1=(i:Int) then p.2.2.2.1 else 0) l=0):=by
  intro l
  induction l with
  |nil=>intro _;simp[zP]
  |cons q l ih=>
   intro hm
   have ih:=ih fun p hp=>hm p (List.mem_cons_of_mem _ hp)
   have hq:=hm q (List.mem_cons_self ..)
   have h0:0≤zP (fun p:zE=>if p.2.1=i then p.2.2.2.1 else 0) l:=uJ fun p hp=>by
    have:=(hm p (List.mem_cons_of_mem _ hp)).a1
    by_cases c:p.2.1=i
    ·rw[if_pos c];omega
    ·rw[if_neg c];exact Int.le_refl 0
   unfold zP
   by_cases c:q.2.1=i
   ·rw[if_pos c]
    have:=hq.a1
    exact⟨fun h=>absurd c (h q (List.mem_cons_self ..)),fun h=>by omega⟩
   ·rw[if_neg c,Int.zero_add,←ih]
    exact⟨fun h p hp=>h p (List.mem_cons_of_mem _ hp),fun h p hp=>by
     rcases List.mem_cons.1 hp with rfl|hp
     ·exact c
     ·exact h p hp⟩
 have bc:(∀p∈l,¬p.2.1=i)↔qH (fun x=> !decide ((l.getD x pd).2.1=i)) l.length 0=true:=by
  rw[fZ]
  constructor
  ·intro h j hj
   simpa using h _ (jV hj)
  ·intro h p hp
   obtain⟨j,hj,rfl⟩:=List.getElem_of_mem hp
   have:=h j hj
   simpa[List.getD,hj] using this
 have:=bc.symm.trans (h l hl)
 cases hc:qH (fun x=> !decide ((l.getD x pd).2.1=i)) l.length 0 with
 |true=>rw[aa (this.1 hc)]
 |false=>
  rw[ab]
  intro h'
  rw[this.2 h'] at hc;cases hc
def yy (n Dn:Int):Bool:= !decide (Dn= -1)&&decide (n>Dn)
theorem yIf (k:Nat)(n Dn:Int):Dp k n Dn=some (yy n Dn):=by
 unfold Dp yy
 cases decide (Dn= -1)<;>rfl
theorem vF8 (k:Nat)(b c r s:Int)(h:-9223372036854775808≤r-s)(h':r<9223372036854775808)(hs:0≤s):uR k b c r s=some (wN r s):=by
 unfold uR wN wJ
 rw[zQ h (by omega),aj]
 by_cases c:s≥r
 ·rw[if_pos c]
  by_cases e:r-s=0
  ·rw[e];rfl
  ·rw[aa (show(0:Int)>r-s by omega)];rfl
 ·rw[if_neg c,ab (show¬(0:Int)>r-s by omega)];rfl
def yz (b p:EQ)(l:List zE)(i:Nat)(short:Bool)(q:zE):Bool:=
 decide (q.2.1=i)&&((decide (q.2.2.2.2.1=3)&&short)||yy (cell p i q.2.2.1.toNat+dS l i q.2.2.1.toNat) (cell b i q.2.2.1.toNat))
theorem vU7 {k:Nat}{a:List qO}{b:EQ}{m:AC}{p:EQ}{l:List zE}(hk:100<k)(hb:wM a b m p)(hl:vW a.length l){r2 r3:AC}{m4:EQ}(hm:Mm a.length l r2 r3 m4){i:Nat}(hi:i<a.length)(bal cr res n0:Int)(jo:0≤res∧res≤2305843009213693952):
  Mp k l i bal cr res r2 r3 m4 n0 a b m p=some (!qH (fun x=> !yz b p l i (decide (n0<wN res (zP (gR i) l))) (l.getD x pd)) l.length 0):=by
 have h6:=hb.n6
 have mG:=hl.2
 have hR:=yv hl i
 obtain ⟨x, h1, h2⟩ := uI (L := fun c x => Ie k c l l.length x i bal cr res r2 r3 m4 n0 a b m p) (N := l.length) (fun x => yz b p l i (decide (n0 < wN res (zP (gR i) l))) (l.getD x pd)) (fun c=>by
   show Dq k _ l l.length l.length i bal cr res r2 r3 m4 n0 a b m p=_
   unfold Dq
   simp only [qB, ab (Nat.lt_irrefl _), aj]) (fun c x hx=>by
   show Dq k _ l l.length x i bal cr res r2 r3 m4 n0 a b m p=_
   have bS:yG a.length (l.getD x pd):=hl.1 _ (jV hx)
   unfold Dq
   simp only[qG,qK hx (show l.length<9223372036854775808 by omega),qB,aq,aa hx,ai]
   generalize l.getD x (0,(0,(0,(0,(0,(0,0))))))=q at bS⊢
   obtain⟨id,f,t,am,cl,st,ti⟩:=q
   obtain⟨f0,f1,t0,t1,ne,a1,a2,c1,c3⟩:=bS
   dsimp only at f0 f1 t0 t1 ne a1 a2 c1 c3⊢
   obtain⟨t,rfl⟩:∃y:Nat,t=y:=⟨t.toNat,by omega⟩
   have ga:t<a.length:=by omega
   unfold TH yz
   dsimp only
   cases hf:decide (f=(i:Int)) with
   |false=>simp
   |true=>
    have e1:(r3.getD i 0)=zP (gR i) l:=hm.spent i hi
    have e2:(m4.getD i []).getD t 0=dS l i t:=hm.sent i hi t ga
    have oH:=hb.nums.net i hi t ga
    have hd:=Da hl i t
    have e3:zA ((p.getD i []).getD t 0+dS l i t)=cell p i t+dS l i t:=zQ (by show _≤cell p i t+dS l i t;omega) (by show cell p i t+dS l i t<_;omega)
    simp only[ay,aj,qG,hm.l3,hm.l4,hm.r4 i hi,hb.pl,hb.pr i hi,hb.bl,hb.br i hi,aa hi,aa ga,ai,aq,e1,e2,e3,vF8 k bal cr res (zP (gR i) l) (by omega) (by omega) hR.1,ae,yIf,Bool.true_and]
    show _=bif (decide (cl=3)&&decide (n0<wN res (zP (gR i) l)))||yy (cell p i t+dS l i t) (cell b i t) then _ else _
    cases decide (cl=3)<;>cases decide (n0<wN res (zP (gR i) l))<;>rfl) (n:=k) (by omega)
 unfold Mp TI
 rw[h1,←h2]
 cases x<;>rfl
theorem TJ {α:Type}{g:α→Int}:∀{l:List α},(∀p∈l,0≤g p)→(0<zP g l↔∃p∈l,0<g p)
 |[],_=>by simp[zP]
 |q::l,h=>by
  have ih:=TJ (g:=g) (l:=l) fun p hp=>h p (List.mem_cons_of_mem _ hp)
  have h0:=uJ (g:=g) (l:=l) fun p hp=>h p (List.mem_cons_of_mem _ hp)
  have hq:=h q (List.mem_cons_self ..)
  unfold zP
  constructor
  ·intro hs
   by_cases c:0<g q
   ·exact⟨q,List.mem_cons_self ..,c⟩
   ·obtain⟨p,hp,hg⟩:=ih.1 (by omega)
    exact⟨p,List.mem_cons_of_mem _ hp,hg⟩
  ·rintro⟨p,hp,hg⟩
   rcases List.mem_cons.1 hp with rfl|hp
   ·omega
   ·have:=ih.2 ⟨p,hp,hg⟩;omega
theorem Mq {N:Nat}{p:Nat→Bool}:qH p N 0=false↔∃j,j<N∧p j=false:=by
 constructor
 ·intro h
  apply Classical.byContradiction
  intro hn
  have:qH p N 0=true:=fZ.2 fun j hj=>by
   cases hp:p j with
   |true=>rfl
   |false=>exact absurd ⟨j,hj,hp⟩ hn
  rw[this] at h;cases h
 ·rintro⟨j,hj,hp⟩
  cases h:qH p N 0 with
  |false=>rfl
  |true=>rw[fZ.1 h j hj] at hp;cases hp
theorem vRd {a:List qO}{b:EQ}{p:EQ}{l:List zE}(hl:vW a.length l){i:Nat}(hi:i<a.length)(short:Bool):
  (!qH (fun x=> !yz b p l i short (l.getD x pd)) l.length 0)=(!qH (qe b p l i) a.length 0||(decide (zP (gN i) l>0)&&short)):=by
 have hN:=TJ (g:=gN i) (l:=l) fun p hp=>(L8 (hl.1 p hp) i).1
 have hS:=fun j=>TJ (g:=gS i j) (l:=l) fun p hp=>(Tz (hl.1 p hp) i j).1
 rw[Bool.eq_iff_iff]
 simp only[Bool.not_eq_true',Bool.or_eq_true,aR,aN]
 rw[Mq,Mq]
 constructor
 ·rintro⟨x,hx,hb⟩
  have bS:=hl.1 _ (jV (d:=pd) hx)
  have eE:=jV (d:=pd) hx
  generalize l.getD x pd=q at hb bS eE
  simp only[yz,Bool.not_eq_false',aR,Bool.or_eq_true,aN] at hb
  obtain⟨hf,hb⟩:=hb
  rcases hb with⟨hc,hs⟩|ho
  ·refine .inr ⟨hN.2 ⟨q,eE,?_⟩,hs⟩
   unfold gN
   rw[if_pos ⟨hf,hc⟩]
   have:=bS.a1;omega
  ·have h1:=bS.t0;have h2:=bS.t1
   refine .inl ⟨q.2.2.1.toNat,by omega,?_⟩
   unfold qe
   have oC:zP (gS i q.2.2.1.toNat) l>0:=(hS _).2 ⟨q,eE,by
    unfold gS
    rw[if_pos ⟨hf,by omega⟩]
    have:=bS.a1;omega⟩
   rw[aa oC]
   unfold yy at ho
   rw[Bool.true_and,ho]
   rfl
 ·rintro(⟨j,hj,hb⟩|⟨hp,hs⟩)
  ·simp only[qe,Bool.not_eq_false',aR,aN] at hb
   obtain⟨oC,ho⟩:=hb
   obtain⟨q,hq,hg⟩:=(hS j).1 oC
   obtain⟨x,hx,rfl⟩:=List.getElem_of_mem hq
   refine⟨x,hx,?_⟩
   have e:l.getD x pd=l[x]:=by simp[List.getD,hx]
   rw[e]
   unfold gS at hg
   by_cases c:l[x].2.1=(i:Int)∧l[x].2.2.1=(j:Int)
   ·unfold yz yy
    rw[aa c.1,c.2,aq]
    simp[ho]
   ·rw[if_neg c] at hg;omega
  ·obtain⟨q,hq,hg⟩:=hN.1 hp
   obtain⟨x,hx,rfl⟩:=List.getElem_of_mem hq
   refine⟨x,hx,?_⟩
   have e:l.getD x pd=l[x]:=by simp[List.getD,hx]
   rw[e]
   unfold gN at hg
   by_cases c:l[x].2.1=(i:Int)∧l[x].2.2.2.2.1=3
   ·unfold yz
    rw[aa c.1,aa c.2,hs]
    simp
   ·rw[if_neg c] at hg;omega
theorem vLw {k:Nat}{a:List qO}{b:EQ}{m:AC}{p:EQ}{l:List zE}(hk:100<k)(hb:wM a b m p)(hl:vW a.length l){r2 r3:AC}{m4:EQ}(hm:Mm a.length l r2 r3 m4){i:Nat}(hi:i<a.length)(hs:decide (zP (gN i) l+zP (gR i) l=0)=false):
  Mr k r2 r3 m4 a b m p i l=some (wX a b m p l i):=by
 have h6:=hb.n6
 have mG:=hl.2
 have hB:=L3 hl i
 have hx:=hb.acct i hi
 simp only[jU,aR,aN] at hx
 have oJ:-4611686018427387904<(a.getD i ad).1∧(a.getD i ad).1<4611686018427387904∧0≤(a.getD i ad).2.1∧(a.getD i ad).2.1≤2305843009213693952∧0≤(a.getD i ad).2.2∧(a.getD i ad).2.2≤2305843009213693952:=⟨hx.1,hx.2.1,hx.2.2.1,hx.2.2.2.1,hx.2.2.2.2.1,hx.2.2.2.2.2⟩
 have oH:=uK (Me hb hi) a.length
 have BP:(a.length:Int)*72057594037927936≤6*72057594037927936:=by omega
 have e1:r2.getD i 0=zP (gB i) l:=hm.more i hi
 unfold Mr
 simp only[qG,aa hi,ai,aq,hm.l2,hm.l4,e1,hm.r4 i hi]
 rw[vWi (by omega) (by omega) hi hb.pl (hb.pr i hi) (Me hb hi)]
 show(bif decide (zA (zA ((a.getD i ad).1+(a.getD i ad).2.1)+zP (gB i) l)<0) then _ else _)=_
 rw[zQ (x:=(a.getD i ad).1+(a.getD i ad).2.1) (by omega) (by omega),zQ (x:=(a.getD i ad).1+(a.getD i ad).2.1+zP (gB i) l) (by omega) (by omega)]
 unfold wX
 rw[hs]
 cases hn:decide ((a.getD i ad).1+(a.getD i ad).2.1+zP (gB i) l<0) with
 |true=>simp
 |false=>
  obtain ⟨s, q1, q2⟩ := vC (L := fun c j (s : Int) => za k c l s (m4.getD i []) a.length j r2 r3 m4 a b m p i (a.getD i ad).1 (a.getD i ad).2.1 (a.getD i ad).2.2 ((a.getD i ad).1 + (a.getD i ad).2.1 + zP (gB i) l)) (N := a.length) (fun s => (l, s, r2, r3, m4, a, b, m, p, (i : Int), (a.getD i ad).1, (a.getD i ad).2.1, (a.getD i ad).2.2, (a.getD i ad).1 + (a.getD i ad).2.1 + zP (gB i) l)) (fun j s => s = qJ (cell p i) a.length + qJ (dS l i) j) (fun c s hs=>by
    show Dr k _ l s (m4.getD i []) a.length a.length r2 r3 m4 a b m p i (a.getD i ad).1 (a.getD i ad).2.1 (a.getD i ad).2.2 ((a.getD i ad).1+(a.getD i ad).2.1+zP (gB i) l)=_
    unfold Dr
    simp only [qB, ab (Nat.lt_irrefl _), aj]) (fun c j s hj hs=>by
    refine⟨qJ (cell p i) a.length+qJ (dS l i) (j+1),?_,rfl⟩
    show Dr k _ l s (m4.getD i []) a.length j r2 r3 m4 a b m p i (a.getD i ad).1 (a.getD i ad).2.1 (a.getD i ad).2.2 ((a.getD i ad).1+(a.getD i ad).2.1+zP (gB i) l)=_
    have e2:(m4.getD i []).getD j 0=dS l i j:=hm.sent i hi j hj
    have BO:=uK (fun j=>Da hl i j) j
    have Cd:=Da hl i j
    have hj1:(j:Int)*70368744177664≤6*70368744177664:=by omega
    unfold Dr
    simp only[qG,qK hj (show a.length<9223372036854775808 by omega),qB,aq,hm.r4 i hi,aa hj,ai,e2]
    rw[hs,zQ (x:=qJ (cell p i) a.length+qJ (dS l i) j+dS l i j) (by omega) (by omega),Int.add_assoc]
    rfl) (n:=k) (s:=qJ (cell p i) a.length) (by omega) (by show _=_+0;omega)
  have q1':za k k l (qJ (cell p i) a.length) (m4.getD i []) a.length 0 r2 r3 m4 a b m p i (a.getD i ad).1 (a.getD i ad).2.1 (a.getD i ad).2.2 ((a.getD i ad).1+(a.getD i ad).2.1+zP (gB i) l)=_:=q1
  simp only[aj,ae]
  rw[show za k k l (qJ (cell p i) a.length) (m4.getD i []) a.length 0 r2 r3 m4 a b m p i (a.getD i (0,(0,0))).1 (a.getD i (0,(0,0))).2.1 (a.getD i (0,(0,0))).2.2 ((a.getD i ad).1+(a.getD i ad).2.1+zP (gB i) l)=_ from q1']
  simp only[ae,qG,hb.ml,aa hi,ai,aq,yIf]
  rw[vU7 hk hb hl hm hi _ _ _ _ ⟨oJ.2.2.2.2.1,oJ.2.2.2.2.2⟩,vRd hl hi,q2,yL5 hl.1 i hi]
  have en:qJ (cell p i) a.length+-zP (gB i) l=qJ (cell p i) a.length-zP (gB i) l:=by omega
  rw[en]
  unfold yy
  simp only[ae,bx,Bool.true_and,Bool.false_or]
  cases qH (qe b p l i) a.length 0<;>cases decide (zP (gN i) l>0)<;>cases decide ((a.getD i ad).1+(a.getD i ad).2.1+zP (gB i) l<wN (a.getD i ad).2.2 (zP (gR i) l))<;>cases decide (m.getD i 0= -1)<;>cases decide (qJ (cell p i) a.length-zP (gB i) l>m.getD i 0)<;>rfl
theorem yWu (f:Nat→Bool)(i:Nat):((List.range (i+1)).filter f).map (fun(x:Nat)=>(x:Int))=(((List.range i).filter f).map fun(x:Nat)=>(x:Int))++(bif f i then[(i:Int)] else[]):=by
 rw[List.range_succ,List.filter_append,List.map_append]
 congr 1
 cases h:f i<;>simp[h]
theorem TK {k:Nat}{a:List qO}{b:EQ}{m:AC}{p:EQ}{l:List zE}(hk:100<k)(hb:wM a b m p)(hl:vW a.length l):zb k a b m p l=some (sP a b m p l):=by
 have h6:=hb.n6
 have mG:=hl.2
 obtain⟨r2,r3,m4,g1,hm⟩:=vXh hk h6 hl
 obtain ⟨r, h1, h2⟩ := vC (L := fun c i (r : AC) => Ds k c l a.length i a b m p r2 r3 m4 r) (N := a.length) (fun r => r) (fun i r => r = ((List.range i).filter fun i => wX a b m p l i).map fun (x : Nat) => (x : Int)) (fun c r hr=>by
   show Dt k _ l a.length a.length a b m p r2 r3 m4 r=_
   unfold Dt
   simp only [qB, ab (Nat.lt_irrefl _), aj]) (fun c i r hi hr=>by
   have hle:r.length≤i:=by
    rw[hr,List.length_map]
    have:=List.length_filter_le (fun i=>wX a b m p l i) (List.range i)
    rw[List.length_range] at this
    exact this
   have aQ:zO (r.length+1) 8=true:=qT (by omega) (by omega)
   refine⟨_,?_,rfl⟩
   show Dt k _ l a.length i a b m p r2 r3 m4 r=_
   unfold Dt
   simp only[qK hi (show a.length<9223372036854775808 by omega),qB,aa hi,ai,vFt (show l.length<k by omega) (by omega),ae,aQ]
   rw[qY9 hl.1,yWu,←hr]
   cases hz:decide (zP (gN i) l+zP (gR i) l=0) with
   |true=>
    have:wX a b m p l i=false:=by unfold wX;rw[hz];rfl
    rw[this]
    simp
   |false=>
    rw[vLw hk hb hl hm hi hz]
    simp only[ae,bx,ai]
    cases wX a b m p l i<;>simp) (n:=k) (s:=[]) (by omega) rfl
 unfold zb
 rw[g1]
 simp only[ae]
 have df:Ds k k l a.length 0 a b m p r2 r3 m4 []=some r:=h1
 rw[df,h2]
 rfl
theorem yGq {k:Nat}{a:List qO}{b:EQ}{m:AC}{p:EQ}{l:List zE}(hk:100<k)(hb:wM a b m p)(hl:vW a.length l):sN k a b m p l=some (sP a b m p l):=by
 have h6:=hb.n6
 obtain ⟨r, h1, h2⟩ := vC (L := fun c i (r : AC) => sO k c l i a b m p r) (N := a.length) (fun r => r) (fun i r => r = ((List.range i).filter fun i => wX a b m p l i).map fun (x : Nat) => (x : Int)) (fun c r hr=>by
   show qg k _ l a.length a b m p r=_
   unfold qg
   simp only [qB, ab (Nat.lt_irrefl _), aj]) (fun c i r hi hr=>by
   have hle:r.length≤i:=by
    rw[hr,List.length_map]
    have:=List.length_filter_le (fun i=>wX a b m p l i) (List.range i)
    rw[List.length_range] at this
    exact this
   have aQ:zO (r.length+1) 8=true:=qT (by omega) (by omega)
   refine⟨_,?_,rfl⟩
   show qg k _ l i a b m p r=_
   unfold qg
   simp only[qK hi (show a.length<9223372036854775808 by omega),qB,aa hi,ai,yLe hk hb hl hi,ae,aQ]
   rw[yWu,←hr]
   cases wX a b m p l i<;>simp) (s:=[]) (show a.length<k by omega) rfl
 unfold sN
 have df:sO k k l 0 a b m p []=some r:=h1
 rw[df,h2]
 rfl
theorem vTd {a:List qO}{b:EQ}{m:AC}{p:EQ}{l:List zE}:decide (((sP a b m p l).length:Int)=0)=qH (fun i=> !wX a b m p l i) a.length 0:=by
 unfold sP
 rw[List.length_map]
 cases h:qH (fun i=> !wX a b m p l i) a.length 0 with
 |true=>
  rw[fZ] at h
  apply aa
  have:(List.range a.length).filter (fun i=>wX a b m p l i)=[]:=by
   rw[List.filter_eq_nil_iff]
   intro i hi
   have:=h i (by simpa using hi)
   simpa using this
  rw[this];rfl
 |false=>
  apply ab
  intro h0
  obtain⟨j,hj,hs⟩:=Mq.1 h
  have hm:j∈(List.range a.length).filter (fun i=>wX a b m p l i):=by
   rw[List.mem_filter]
   exact⟨by simpa using hj,by simpa using hs⟩
  have:=List.length_pos_of_mem hm
  omega
theorem vF9 {k:Nat}{l:List zE}(hk:l.length<k)(hl:l.length<9223372036854775808)(a:List qO)(b:EQ)(m:AC)(p:EQ):Ms k l a b m p=some (!mF a.length l):=by
 obtain ⟨x, h1, h2⟩ := uI (L := fun c i => Ig k c l l.length i a b m p) (N := l.length) (fun i => !sK a.length (l.getD i pd)) (fun c=>by
  show Du k _ l l.length l.length a b m p=_
  unfold Du
  simp only [qB, ab (Nat.lt_irrefl _), aj]) (fun c i hi=>by
  show Du k _ l l.length i a b m p=_
  unfold Du TL
  simp only[qG,qK hi hl,qB,aq,aa hi,ai,Tt,ae]) hk
 unfold Ms TM
 rw[h1]
 simp only[Bool.not_not] at h2
 unfold mF
 rw[←h2]
 cases x<;>rfl
theorem vSh {k:Nat}{a:List qO}{b:EQ}{m:AC}{p:EQ}{l:List zE}(hk:100<k)(hb:wM a b m p)(hl:l.length≤80):zc k a b m p l=some (uU a b m p l):=by
 unfold zc uU
 have e:decide ((l.length:Int)≤64)=decide (l.length≤64):=by
  by_cases h:l.length≤64
  ·rw[aa h,aa (by omega)]
  ·rw[ab h,ab (by omega)]
 rw[e,vF9 (by omega) (by omega)]
 cases bU:decide (l.length≤64) with
 |false=>simp
 |true=>
  cases hm:mF a.length l with
  |false=>rfl
  |true=>
   have hr:vW a.length l:=⟨yu.1 hm,sC bU⟩
   simp only[ai,ae,ay,bx,TK hk hb hr,vTd,Bool.and_self,Bool.true_and]
def qQ (l:List zE):Prop:=List.Pairwise (fun p q=>p.1≠q.1) l
theorem qQ.filter {l:List zE}(h:qQ l)(f:zE→Bool):qQ (l.filter f):=List.Pairwise.filter f h
theorem zd {α:Type}(f:α→Bool)(l:List α)(i:Nat)(d:α)(h:i<l.length):(l.take (i+1)).filter f=(l.take i).filter f++(bif f (l.getD i d) then[l.getD i d] else[]):=by
 rw[←fL l i d h,List.filter_append]
 congr 1
theorem Ih {α X:Type}(d:α){l:List α}{L:Nat→Int→List α→Option X}(f:α→Bool)(e:List α→X)(bF:∀n s,L (n+1) (l.length:Int) s=some (e s))
  (aM:∀n i s,i<l.length→s.length≤i→L (n+1) (i:Int) s=L n ((i+1:Nat):Int) (bif f (l.getD i d) then s++[l.getD i d] else s)) {n:Nat} (hn:l.length<n):
  L n 0 []=some (e (l.filter f)):=by
 obtain ⟨s', h1, h2⟩ := vC (L := L) (N := l.length) e (fun i s => s = (l.take i).filter f) (fun n s _ => bF n s) (fun n i s hi hs=>by
  refine⟨_,aM n i s hi ?_,?_⟩
  ·subst hs
   have:=List.length_filter_le f (l.take i)
   rw[List.length_take] at this
   omega
  ·subst hs
   rw[zd f l i d hi]
   cases f (l.getD i d)<;>simp) (s:=[]) hn (by simp)
 rw[h1,h2,List.take_length]
def qV (l:List zE):Prop:=l.length≤1000
theorem lR {n:Nat}(h:n≤1000):zO (n+1) 56=true:=qT (by omega) (by omega)
def iO (t:Int)(p:zE):Bool:=bif decide (t≥p.2.2.2.2.2.1) then decide (t≤p.2.2.2.2.2.2) else false
theorem TN {k:Nat}{l:List zE}(hk:l.length<k)(hl:qV l)(t:Int):Dv k l t=some (l.filter (iO t)):=by
 unfold Dv TO
 have := Ih pd (L := fun n i s => Ii k n l l.length i t s) (iO t) id (fun n s=>by
  show Dw k _ l l.length l.length t s=_
  unfold Dw
  simp only [qB, ab (Nat.lt_irrefl _), aj]; rfl) (fun n i s hi hs=>by
  show Dw k _ l l.length i t s=_
  unfold Dw TP TQ
  unfold qV at hl
  simp only[qG,qK hi (show l.length<9223372036854775808 by omega),qB,aq,aa hi,ai,lR (show s.length≤1000 by omega)]
  unfold iO
  cases h1:decide (t≥(l.getD i pd).2.2.2.2.2.1) with
  |false=>rfl
  |true=>
   cases h2:decide (t≤(l.getD i pd).2.2.2.2.2.2)<;>rfl) hk
 rw[this]
 rfl
theorem TR {k:Nat}{l:List zE}(hk:l.length<k)(hl:qV l)(t:Int):Dx k l t=some (l.filter (iO t)):=by
 unfold Dx
 have := Ih pd (L := fun n i s => Ij k n l t i s) (iO t) id (fun n s=>by
  show Dy k _ l t l.length s=_
  unfold Dy
  simp only [qB, ab (Nat.lt_irrefl _), aj]; rfl) (fun n i s hi hs=>by
  show Dy k _ l t i s=_
  unfold Dy TS
  unfold qV at hl
  simp only[qG,qK hi (show l.length<9223372036854775808 by omega),qB,aq,aa hi,ai,lR (show s.length≤1000 by omega)]
  unfold iO
  cases h1:decide (t≥(l.getD i pd).2.2.2.2.2.1) with
  |false=>rfl
  |true=>
   cases h2:decide (t≤(l.getD i pd).2.2.2.2.2.2)<;>rfl) hk
 rw[this]
 rfl
def wH (f:Int)(p:zE):Bool:=decide (p.2.1=f)
theorem Mt {k:Nat}{l:List zE}(hk:l.length<k)(hl:qV l)(f:Int):sQ k l f=some (l.filter (wH f)):=by
 unfold sQ
 have := Ih pd (L := fun n i s => Ik k n l f i s) (wH f) id (fun n s=>by
  show Dz k _ l f l.length s=_
  unfold Dz
  simp only [qB, ab (Nat.lt_irrefl _), aj]; rfl) (fun n i s hi hs=>by
  show Dz k _ l f i s=_
  unfold Dz
  unfold qV at hl
  simp only[qG,qK hi (show l.length<9223372036854775808 by omega),qB,aq,aa hi,ai,lR (show s.length≤1000 by omega)]
  unfold wH
  cases h1:decide ((l.getD i pd).2.1=f)<;>rfl) hk
 rw[this]
 rfl
def Mu (r:List zE)(p:zE):Bool:=qH (fun x=>decide (((r.filter (wH p.2.1)).getD x pd).2.2.2.2.1=3)) (r.filter (wH p.2.1)).length 0
def Mv (r:List zE)(p:zE):Bool:=decide ((r.filter (wH p.2.1)).getD 0 pd=p)
def qh (r:List zE)(p:zE):Bool:=Mv r p||Mu r p
def vZ (l:List zE)(t:Int):List zE:=(l.filter (iO t)).filter (qh (l.filter (iO t)))
theorem eq7 (p q:zE):((decide (p.1=q.1))&&((decide (p.2.1=q.2.1))&&((decide (p.2.2.1=q.2.2.1))&&((decide (p.2.2.2.1=q.2.2.2.1))&&((decide (p.2.2.2.2.1=q.2.2.2.2.1))&&((decide (p.2.2.2.2.2.1=q.2.2.2.2.2.1))&&(decide (p.2.2.2.2.2.2=q.2.2.2.2.2.2))))))))=decide (p=q):=by
 obtain⟨a,b,c,d,e,f,g⟩:=p
 obtain⟨a',b',c',d',e',f',g'⟩:=q
 simp only[Prod.mk.injEq]
 rw[Bool.eq_iff_iff]
 simp only[aR,aN]
theorem vFa {k n:Nat}(s7:Int)(r0 r1 r2:List zE)(hk:r2.length<n)(hl:qV r2):
  DA k n s7 true 0 r0 r1 r2=some (s7,qH (fun x=>decide ((r2.getD x pd).2.2.2.2.1=3)) r2.length 0,r0,r1,r2):=by
 obtain ⟨s', h1, h2⟩ := vC (L := fun n i s => DA k n s7 s i r0 r1 r2) (N := r2.length) (fun s => (s7, s, r0, r1, r2)) (fun i s => s = qH (fun x => decide ((r2.getD x pd).2.2.2.2.1 = 3)) i 0) (fun n s _=>by
  show DB k _ s7 s r2.length r0 r1 r2=_
  unfold DB
  simp only [qB, ab (Nat.lt_irrefl _), aj]) (fun n i s hi hs=>by
  refine⟨_,?_,rfl⟩
  show DB k _ s7 s i r0 r1 r2=_
  unfold DB
  unfold qV at hl
  simp only[qG,qK hi (show r2.length<9223372036854775808 by omega),qB,aq,aa hi,ai]
  have e:qH (fun x=>decide ((r2.getD x pd).2.2.2.2.1=3)) (i+1) 0=(s&&decide ((r2.getD i pd).2.2.2.2.1=3)):=by
   rw[Bool.eq_iff_iff,hs]
   simp only[fZ,aR,aN]
   constructor
   ·intro h
    exact⟨fun j hj=>h j (by omega),h i (by omega)⟩
   ·rintro⟨h1,h2⟩ j hj
    by_cases c:j=i
    ·subst c;exact h2
    ·exact h1 j (by omega)
  rw[e]
  cases s<;>rfl) (s:=true) hk rfl
 exact h1.trans (by rw[h2])
theorem yPw {k:Nat}{l:List zE}(hk:l.length<k)(hl:qV l)(t:Int):Il k l t=some (vZ l t):=by
 unfold Il
 rw[TR hk hl]
 simp only[ae]
 unfold vZ
 have dG:(l.filter (iO t)).length≤l.length:=List.length_filter_le _ _
 generalize l.filter (iO t)=r at dG
 unfold qV at hl
 have := Ih pd (L := fun n i s => Im k n i r s) (l := r) (qh r) id (fun n s=>by
  show DC k _ r.length r s=_
  unfold DC
  simp only [qB, ab (Nat.lt_irrefl _), aj]; rfl) (fun n i s hi hs=>by
  show DC k _ i r s=_
  unfold DC
  have rV:(r.filter (wH (r.getD i pd).2.1)).length≤r.length:=List.length_filter_le _ _
  have nY:0<(r.filter (wH (r.getD i pd).2.1)).length:=by
   apply List.length_pos_of_mem (a:=r.getD i pd)
   rw[List.mem_filter]
   exact⟨jV hi,by simp[wH]⟩
  have Mw:=Mt (k:=k) (l:=r) (by omega) (show r.length≤1000 by omega) (r.getD i pd).2.1
  have b0:∀n:Nat,zC 0 n=decide (0<n):=fun n=>qG 0 n
  have e7:=eq7 ((r.filter (wH (r.getD i pd).2.1)).getD 0 pd) (r.getD i pd)
  simp only[pd] at Mw rV nY e7
  simp only[qG,qK hi (show r.length<9223372036854775808 by omega),qB,aq,aa hi,ai,lR (show s.length≤1000 by omega)]
  rw[Mw]
  simp only[ae]
  rw[vFa ((i:Nat):Int) r s _ (by omega) (show _≤1000 by omega)]
  simp only[ae,b0,aa nY,aa hi,ai,qG,aq,qK hi (show r.length<9223372036854775808 by omega),lR (show s.length≤1000 by omega)]
  rw[e7]
  unfold qh Mv Mu
  simp only[pd]
  generalize decide ((r.filter (wH (r.getD i (0,(0,(0,(0,(0,(0,0))))))).2.1)).getD 0 (0,(0,(0,(0,(0,(0,0))))))=r.getD i (0,(0,(0,(0,(0,(0,0)))))))=x
  generalize qH _ _ 0=y
  cases x<;>cases y<;>rfl) (show r.length<k by omega)
 have e:((0:Nat):Int)=0:=rfl
 rw[this]
 rfl
def ze (f:Int)(q:zE):Bool:=decide (q.2.1=f)&& !decide (q.2.2.2.2.1=3)
theorem vYn {k:Nat}{l:List zE}(hk:l.length<k)(hl:l.length<9223372036854775808)(i f t a c s e:Int):
  Mx k l i f t a c s e=some (!qH (fun x=> !ze f (l.getD x pd)) l.length 0):=by
 obtain ⟨x, h1, h2⟩ := uI (L := fun n i' => DD k n l l.length i' i f t a c s e) (N := l.length) (fun x => ze f (l.getD x pd)) (fun n=>by
  show DE k _ l l.length l.length i f t a c s e=_
  unfold DE
  simp only [qB, ab (Nat.lt_irrefl _), aj]) (fun n j hj=>by
  show DE k _ l l.length j i f t a c s e=_
  unfold DE TT
  simp only[qG,qK hj hl,qB,aq,aa hj,ai]
  unfold ze
  cases h1:decide ((l.getD j pd).2.1=f) with
  |false=>rfl
  |true=>cases h2:decide ((l.getD j pd).2.2.2.2.1=3)<;>rfl) hk
 unfold Mx TU
 have df:DD k k l l.length 0 i f t a c s e=some x:=h1
 rw[df]
 rw[←h2]
 cases x<;>rfl
theorem vQu (r:List zE)(p:zE):Mu r p=true↔∀q∈r,q.2.1=p.2.1→q.2.2.2.2.1=3:=by
 unfold Mu
 rw[fZ]
 constructor
 ·intro h q hq he
  have hm:q∈r.filter (wH p.2.1):=List.mem_filter.2 ⟨hq,by simp[wH,he]⟩
  obtain⟨i,hi,e⟩:=List.getElem_of_mem hm
  have:=h i hi
  rw[List.getD_eq_getElem?_getD,List.getElem?_eq_getElem hi,e] at this
  simpa using this
 ·intro h j hj
  have hm:=jV (d:=pd) hj
  rw[List.mem_filter] at hm
  have:=h _ hm.1 (by simpa[wH] using hm.2)
  simpa using this
theorem TV (r:List zE)(f:Int):qH (fun x=> !ze f (r.getD x pd)) r.length 0=true↔∀q∈r,q.2.1=f→q.2.2.2.2.1=3:=by
 rw[fZ]
 constructor
 ·intro h q hq he
  obtain⟨i,hi,e⟩:=List.getElem_of_mem hq
  have:=h i hi
  rw[List.getD_eq_getElem?_getD,List.getElem?_eq_getElem hi,e] at this
  simpa[ze,he] using this
 ·intro h j hj
  have:=h _ (jV (d:=pd) hj)
  simp only[ze,Bool.not_eq_true',Bool.and_eq_false_iff,Bool.not_eq_false',aN,decide_eq_false_iff_not]
  by_cases c:(r.getD j pd).2.1=f
  ·exact .inr (this c)
  ·exact .inl c
theorem qQ.split {r:List zE}(h:qQ r){i:Nat}(hi:i<r.length):∀q∈r.take i,q.1≠(r.getD i pd).1:=by
 intro q hq
 have e:r.take (i+1)=r.take i++[r.getD i pd]:=(fL r i pd hi).symm
 have hs:qQ (r.take (i+1)):=List.Pairwise.sublist (List.take_sublist _ _) h
 rw[e] at hs
 exact(List.pairwise_append.1 hs).2.2 q hq _ (List.mem_singleton.2 rfl)
theorem Io {α:Type}(r:List α)(i:Nat)(d:α)(hi:i<r.length):r=r.take i++r.getD i d::r.drop (i+1):=by
 conv=>lhs;rw[←List.take_append_drop i r]
 congr 1
 rw[List.drop_eq_getElem_cons hi]
 congr 1
 rw[List.getD_eq_getElem?_getD,List.getElem?_eq_getElem hi];rfl
theorem vD9 {r:List zE}(h:qQ r){i:Nat}(hi:i<r.length):Mv r (r.getD i pd)= !(r.take i).any (wH (r.getD i pd).2.1):=by
 unfold Mv
 have e:∀f,wH f (r.getD i pd)=true→r.filter (wH f)=(r.take i).filter (wH f)++r.getD i pd::(r.drop (i+1)).filter (wH f):=by
  intro f hf
  have:=congrArg (List.filter (wH f)) (Io r i pd hi)
  rwa [List.filter_append,List.filter_cons_of_pos hf] at this
 have e:=e (r.getD i pd).2.1 (by simp[wH])
 rw[e]
 cases ha:(r.take i).any (wH (r.getD i pd).2.1) with
 |false=>
  have:(r.take i).filter (wH (r.getD i pd).2.1)=[]:=by
   rw[List.filter_eq_nil_iff]
   intro q hq hf
   rw[List.any_eq_false] at ha
   exact ha q hq hf
  rw[this]
  simp
 |true=>
  cases hf:(r.take i).filter (wH (r.getD i pd).2.1) with
  |nil=>
   rw[List.filter_eq_nil_iff] at hf
   rw[List.any_eq_true] at ha
   obtain⟨q,h1,h2⟩:=ha
   exact absurd h2 (hf q h1)
  |cons q l=>
   have hq:q∈r.take i:=(List.mem_filter.1 (hf▸List.mem_cons_self ..:q∈(r.take i).filter _)).1
   have:=h.split hi q hq
   have e2:(q::l++r.getD i pd::(r.drop (i+1)).filter (wH (r.getD i pd).2.1)).getD 0 pd=q:=rfl
   rw[e2]
   simp only[ay,decide_eq_false_iff_not]
   intro c
   exact this (by rw[c])
theorem vQo {r:List zE}(h:qQ r){i:Nat}(hi:i<r.length):
  qh r (r.getD i pd)=(!(r.take i).any (wH (r.getD i pd).2.1)||(decide ((r.getD i pd).2.2.2.2.1=3)&&qH (fun x=> !ze (r.getD i pd).2.1 (r.getD x pd)) r.length 0)):=by
 unfold qh
 rw[vD9 h hi]
 congr 1
 rw[Bool.eq_iff_iff,vQu,aR,TV,aN]
 exact⟨fun g=>⟨g _ (jV hi) rfl,g⟩,fun g=>g.2⟩
theorem lookup_cons (f g:Int)(l:List (Int×Bool)):(List.lookup f ((g,true)::l)).getD false=(decide (f=g)||(List.lookup f l).getD false):=by
 rw[List.lookup_cons]
 by_cases c:f=g
 ·subst c;simp
 ·have:(f==g)=false:=by simpa using c
  rw[this]
  simp[c]
theorem yF6 {k:Nat}{l:List zE}(hk:l.length<k)(hl:qV l)(hd:qQ l)(t:Int):Ip k l t=some (vZ l t):=by
 unfold Ip
 rw[TN hk hl]
 simp only[ae]
 unfold vZ
 have dG:(l.filter (iO t)).length≤l.length:=List.length_filter_le _ _
 have uf:=hd.filter (iO t)
 generalize l.filter (iO t)=r at dG uf
 unfold qV at hl
 unfold TW
 obtain ⟨s', h1, h2, h3⟩ := vC (L := fun n i (s : List (Int × Bool) × List zE) => DF k n r r.length i s.1 r s.2) (N := r.length) (fun s => (s.1, r, s.2)) (fun i s => (∀ f, (List.lookup f s.1).getD false = (r.take i).any (wH f)) ∧ s.2 = (r.take i).filter (qh r)) (fun n s _=>by
  show DG k _ r r.length r.length s.1 r s.2=_
  unfold DG
  simp only [qB, ab (Nat.lt_irrefl _), aj]) (fun n i s hi hs=>by
  refine⟨(((r.getD i pd).2.1,true)::s.1,bif qh r (r.getD i pd) then s.2++[r.getD i pd] else s.2),?_,?_,?_⟩
  ·show DG k _ r r.length i s.1 r s.2=_
   unfold DG TX
   have hlen:s.2.length≤i:=by
    rw[hs.2]
    have:=List.length_filter_le (qh r) (r.take i)
    rw[List.length_take] at this
    omega
   have hc:=vYn (k:=k) (l:=r) (by omega) (by omega) (r.getD i pd).1 (r.getD i pd).2.1 (r.getD i pd).2.2.1 (r.getD i pd).2.2.2.1 (r.getD i pd).2.2.2.2.1 (r.getD i pd).2.2.2.2.2.1 (r.getD i pd).2.2.2.2.2.2
   have su:=hs.1 (r.getD i pd).2.1
   have hp:=vQo uf hi
   simp only[pd] at hc su hp⊢
   simp only[qG,qK hi (show r.length<9223372036854775808 by omega),qB,aq,aa hi,ai,lR (show s.2.length≤1000 by omega)]
   rw[hc,su,hp]
   generalize (r.take i).any _=x
   generalize qH _ _ 0=y
   generalize decide ((r.getD i (0,(0,(0,(0,(0,(0,0))))))).2.2.2.2.1=3)=z
   cases x<;>cases y<;>cases z<;>rfl
  ·intro f
   rw[lookup_cons,hs.1 f,←fL r i pd hi,List.any_append,Bool.or_comm]
   congr 1
   simp only[List.any_cons,List.any_nil,Bool.or_false,wH]
   rw[Bool.eq_iff_iff]
   simp only[aN]
   exact eq_comm
  ·show(bif qh r (r.getD i pd) then s.2++[r.getD i pd] else s.2)=_
   rw[hs.2,zd _ _ _ pd hi]
   cases qh r (r.getD i pd)<;>simp) (s:=([],[])) (show r.length<k by omega) ⟨fun f=>by simp,by simp⟩
 have df:DF k k r r.length 0 [] r []=some (s'.1,r,s'.2):=h1
 rw[df,h3,List.take_length]
 rfl
def uV (p:Nat→Bool):Nat→Nat→Option Nat
 |0,_=>none
 |c+1,i=>bif p i then some i else uV p c (i+1)
def TY:Option Nat→Unit⊕Int
 |some x=>.inr (x:Int)
 |none=>.inl ()
theorem TZ {L:Nat→Int→Option (Unit⊕Int)}{N:Nat} bad (bF:∀n,L (n+1) (N:Int)=some (.inl ()))
  (aM:∀n i,i<N→L (n+1) (i:Int)=bif bad i then some (.inr (i:Int)) else L n ((i+1:Nat):Int)):
  ∀c i n,i+c=N→c<n→L n (i:Int)=some (TY (uV bad c i))
 |0,i,n,h,hn=>by
  obtain⟨n,rfl⟩:∃m,n=m+1:=⟨n-1,by omega⟩
  have:i=N:=by omega
  subst this
  exact bF n
 |c+1,i,n,h,hn=>by
  obtain⟨n,rfl⟩:∃m,n=m+1:=⟨n-1,by omega⟩
  rw[aM n i (by omega)]
  unfold uV
  cases hb:bad i with
  |true=>rfl
  |false=>
   exact TZ bad bF aM c (i+1) n (by omega) (by omega)
theorem yGh {p}:∀{c i x},uV p c i=some x→i≤x∧x<i+c∧p x=true∧∀j,i≤j→j<x→p j=false
 |c+1,i,x,h=>by
  unfold uV at h
  cases hp:p i with
  |true=>
   grind
  |false=>
   rw[hp] at h
   obtain⟨h1,h2,h3,h4⟩:=yGh h
   grind
theorem yGm {p}:∀{c i},uV p c i=none→∀j,i≤j→j<i+c→p j=false
 |0,_,_=>by grind
 |c+1,i,h=>by
  unfold uV at h
  cases hp:p i with
  |true=>
   simp_all
  |false=>
   rw[hp] at h
   intro j j1 j2
   by_cases e:j=i
   ·simp_all
   ·exact yGm h j (by omega) (by omega)
def vN (l:List zE)(id:Int):Option Nat:=uV (fun x=>decide ((l.getD x pd).1=id)) l.length 0
def jy (l:List zE)(id:Int):Int:=match vN l id with|some x=>(x:Int)|none=>-1
theorem jz {l id x}(h:vN l id=some x):x<l.length∧(l.getD x pd).1=id:=by
 obtain⟨_,h2,h3,_⟩:=yGh h
 simp_all
theorem vVw {l id}(h:vN l id=none):∀p∈l,p.1≠id:=by
 intro p hp e
 obtain⟨i,hi,e'⟩:=List.getElem_of_mem hp
 have:=yGm h i (by omega) (by omega)
 simp_all
theorem My {l p}(h:p∈l):∃x,vN l p.1=some x:=by
 cases e:vN l p.1 with
 |some x=>simp
 |none=>exact absurd rfl (vVw e p h)
theorem Mz {k}{l:List zE}(hk:l.length<k)(hl:l.length<9223372036854775808) id:lS k l id=some (jy l id):=by
 have := TZ (L := fun n i => DH k n l id i) (N := l.length) (fun x => decide ((l.getD x pd).1 = id)) (fun n=>by
  show DI k _ l id l.length=_
  unfold DI
  simp) (fun n j hj=>by
  show DI k _ l id j=_
  unfold DI
  simp[qG,qK hj hl,aa hj]) l.length 0 k (by omega) hk
 have h1:DH k k l id 0=some (TY (vN l id)):=this
 unfold lS jy
 rw[h1]
 cases vN l id<;>rfl
theorem Iq {k}{l:List zE}(hk:l.length<k)(hl:l.length<9223372036854775808) id:nD k l id=some (jy l id):=by
 have := TZ (L := fun n i => DJ k n l l.length i id) (N := l.length) (fun x => decide ((l.getD x pd).1 = id)) (fun n=>by
  show DK k _ l l.length l.length id=_
  unfold DK
  simp) (fun n j hj=>by
  show DK k _ l l.length j id=_
  unfold DK T0
  simp only[qG,qK hj hl,qB,aa hj]
  rfl) l.length 0 k (by omega) hk
 have h1:DJ k k l l.length 0 id=some (TY (vN l id)):=this
 unfold nD T1 jy
 rw[h1]
 cases vN l id<;>rfl
def yB (l:List zE)(x:Nat):List zE:=l.take x++l.drop (x+1)
theorem mH {l x}(h:x<l.length):(yB l x).length=l.length-1:=by
 unfold yB
 grind
theorem sR l x:List.Sublist (yB l x) l:=by
 unfold yB
 conv=>rhs;rw[←List.take_append_drop x l]
 grind
theorem qQ.cut {l}(h:qQ l) x:qQ (yB l x):=List.Pairwise.sublist (sR l x) h
theorem ySe k {l}{x:Nat}(hx:x<l.length)(hl:qV l):Ir k l x ((x+1:Nat):Int)=some (yB l x):=by
 unfold Ir
 have c1:(decide ((0:Int)≤(x:Int)))=true:=by simp
 have c2:decide ((x:Int)≤((x+1:Nat):Int))=true:=aa (by omega)
 have c3:decide (((x+1:Nat):Int)≤(l.length:Int))=true:=aa (by omega)
 have c4:decide ((l.length:Int)≤(l.length:Int))=true:=by simp
 have c5:decide ((x:Int)=((x+1:Nat):Int))=false:=ab (by omega)
 have c6:decide ((x:Int)≤(l.length:Int))=true:=aa (by omega)
 have c7:decide ((0:Int)≤((x+1:Nat):Int))=true:=aa (by omega)
 have c8:Nat.ble (x-0) (0+(x+1))=true:=by simp
 simp only[aq,c1,c2,c3,c4,c5,c6,c7,c8,aj]
 have e0:x-0+(l.length-(x+1))=l.length-1:=by omega
 have e1:List.take (x-0) l++qZ l (0+(x+1)) (l.length-(x+1))=yB l x:=by
  unfold qZ yB
  rw[Nat.sub_zero,Nat.zero_add]
  congr 1
  rw[List.take_of_length_le]
  rw[List.length_drop]
  exact Nat.le_refl _
 have e2:(qZ (yB l x++List.drop (l.length-1) l) 0 (l.length-1))=yB l x:=by
  unfold qZ
  rw[List.drop_zero,List.take_append_of_le_length (by rw[mH hx];exact Nat.le_refl _),List.take_of_length_le (by rw[mH hx];exact Nat.le_refl _)]
 have e3:(yB l x++List.drop (l.length-1) l).length=l.length:=by
  rw[List.length_append,List.length_drop,mH hx];omega
 have c9:decide ((0:Int)≤((yB l x).length:Int))=true:=by simp
 have MA:decide (((yB l x).length:Int)≤(l.length:Int))=true:=by grind
 have zg:decide ((l.length:Int)≤((l.length-0:Nat):Int))=true:=by simp
 have e4:List.take (0+(yB l x).length) (yB l x++List.drop (l.length-1) l)=yB l x:=by
  rw[Nat.zero_add,List.take_append_of_le_length (Nat.le_refl _),List.take_of_length_le (Nat.le_refl _)]
 simp only[e0,e1,e2,e3,c9,MA,zg,e4,Bool.and_true,ai]
 rw[List.append_assoc,List.take_append_of_le_length (by rw[mH hx];exact Nat.le_refl _),List.take_of_length_le (by rw[mH hx];exact Nat.le_refl _)]
def gC (l:List zE)(id:Int):List zE×Int×Int×Int×Int×Int×Int×Int×Int:=match vN l id with
 |some x=>(yB l x,(l.getD x pd).1,(l.getD x pd).2.1,(l.getD x pd).2.2.1,(l.getD x pd).2.2.2.1,(l.getD x pd).2.2.2.2.1,(l.getD x pd).2.2.2.2.2.1,(l.getD x pd).2.2.2.2.2.2,0)
 |none=>(l,0,0,0,0,0,0,0,4)
theorem zh {k l}(hk:l.length<k)(hl:qV l) id:oK k l id=some (gC l id):=by
 unfold qV at hl
 unfold oK
 rw[Iq hk (by omega)]
 unfold jy gC
 cases hp:vN l id with
 |none=>rfl
 |some x=>
  have hx:=(jz hp).1
  have e1:decide ((x:Int)<0)=false:=by simp
  have e2:uW k l=some l:=by
   unfold uW
   rw[qT (by omega) (by omega)]
   rfl
  simp only[ae,e1,aj,e2,qK hx (by grind),ySe k hx hl,qG,aa hx,ai,aq]
def wV (q p:zE):Bool:=decide (q.2.1<p.2.1)||(decide (q.2.1=p.2.1)&&decide (q.2.2.2.2.1≤p.2.2.2.2.1))
def iP (q p:zE):Bool:=decide (q.2.1<p.2.1)||(decide (q.2.1=p.2.1)&&decide (q.2.2.2.2.1<p.2.2.2.2.1))
theorem vT8 (n:Nat)(x y:Int):MB (n+3) [x,y]=some (if x=0 then y else x):=by
 have key:∀n:Nat,DL (n+3) (n+3) 0 [x,y] 2 0=bif !decide (x=0) then some (.inr x) else bif !decide (y=0) then some (.inr y) else some (.inl 0):=fun n=>rfl
 unfold MB
 show(DL (n+3) (n+3) 0 [x,y] 2 0).bind _=_
 rw[key]
 by_cases h:x=0
 ·rw[aa h,if_pos h]
  by_cases h2:y=0
  ·rw[aa h2,h2];rfl
  ·rw[ab h2];rfl
 ·rw[ab h,if_neg h];rfl
theorem vK8 (k:Nat)(a b:Int):Is k a b=some (if a<b then-1 else if a>b then 1 else 0):=by
 unfold Is MC
 have e:∀x:Int,decide (x=x)=true:=fun x=>aa rfl
 simp only[e,ay,ae,aj]
 by_cases h:a<b
 ·rw[aa h,if_pos h];rfl
 ·rw[ab h,if_neg h]
  by_cases h2:a>b
  ·rw[aa h2,if_pos h2];rfl
  ·rw[ab h2,if_neg h2];rfl
theorem yBh {k:Nat}(hk:3≤k)(q p:zE):∃x,DM k q.1 q.2.1 q.2.2.1 q.2.2.2.1 q.2.2.2.2.1 q.2.2.2.2.2.1 q.2.2.2.2.2.2 p.1 p.2.1 p.2.2.1 p.2.2.2.1 p.2.2.2.2.1 p.2.2.2.2.2.1 p.2.2.2.2.2.2=some x∧decide (x≤0)=wV q p∧decide (x<0)=iP q p:=by
 obtain⟨n,rfl⟩:∃n,k=n+3:=⟨k-3,by omega⟩
 unfold DM
 simp only[vK8,ae,vT8]
 refine⟨_,rfl,?_,?_⟩
 ·unfold wV
  rcases Int.lt_trichotomy q.2.1 p.2.1 with h|h|h
  ·simp[h]
  ·rcases Int.lt_trichotomy q.2.2.2.2.1 p.2.2.2.2.1 with g|g|g
   ·simp[h,g,Int.le_of_lt g]
   ·simp[h,g]
   ·have g1:¬q.2.2.2.2.1<p.2.2.2.2.1:=by omega
    have g2:¬q.2.2.2.2.1≤p.2.2.2.2.1:=by omega
    simp[h,g1,g2,g]
  ·have h1:¬q.2.1<p.2.1:=by omega
   have h2:¬q.2.1=p.2.1:=by omega
   simp[h1,h2,h]
 ·unfold iP
  rcases Int.lt_trichotomy q.2.1 p.2.1 with h|h|h
  ·simp[h]
  ·rcases Int.lt_trichotomy q.2.2.2.2.1 p.2.2.2.2.1 with g|g|g
   ·simp[h,g]
   ·simp[h,g]
   ·have g1:¬q.2.2.2.2.1<p.2.2.2.2.1:=by omega
    simp[h,g1,g]
  ·have h1:¬q.2.1<p.2.1:=by omega
   have h2:¬q.2.1=p.2.1:=by omega
   simp[h1,h2,h]
def Iu (ok:Nat→Bool):Nat→Nat→Nat
 |0,i=>i
 |c+1,i=>bif ok i then Iu ok c (i+1) else i
theorem DN {X:Type}{L:Nat→Int→Option X}{N:Nat}(ok:Nat→Bool)(e:Nat→X)(bF:∀n,L (n+1) (N:Int)=some (e N))
  (aM:∀n i,i<N→L (n+1) (i:Int)=bif ok i then L n ((i+1:Nat):Int) else some (e i)):∀c i n,i+c=N→c<n→L n (i:Int)=some (e (Iu ok c i))
 |0,i,n,h,hn=>by
  obtain⟨n,rfl⟩:∃m,n=m+1:=⟨n-1,by omega⟩
  have:i=N:=by omega
  subst this
  exact bF n
 |c+1,i,n,h,hn=>by
  obtain⟨n,rfl⟩:∃m,n=m+1:=⟨n-1,by omega⟩
  rw[aM n i (by omega)]
  unfold Iu
  cases ok i with
  |false=>rfl
  |true=>exact DN ok e bF aM c (i+1) n (by omega) (by omega)
theorem DO {α:Type}(f:α→Bool)(l:List α)(d:α):∀c i,i+c=l.length→Iu (fun x=>f (l.getD x d)) c i=i+((l.drop i).takeWhile f).length
 |0,i,h=>by
  rw[List.drop_eq_nil_of_le (by omega)]
  rfl
 |c+1,i,h=>by
  rw[List.drop_eq_getElem_cons (show i<l.length by omega)]
  unfold Iu
  have e:l.getD i d=l[i]:=by rw[List.getD_eq_getElem?_getD,List.getElem?_eq_getElem (by omega)];rfl
  rw[e]
  cases hf:f l[i] with
  |false=>rw[List.takeWhile_cons_of_neg (by simp[hf])];rfl
  |true=>
   rw[List.takeWhile_cons_of_pos hf,ai,DO f l d c (i+1) (by omega),List.length_cons]
   omega
theorem mI {α:Type}(f:α→Bool)(l:List α):l.take (l.takeWhile f).length=l.takeWhile f∧l.drop (l.takeWhile f).length=l.dropWhile f:=by
 have e:=List.takeWhile_append_dropWhile (p:=f) (l:=l)
 have h1:(l.takeWhile f++l.dropWhile f).take (l.takeWhile f).length=l.takeWhile f:=List.take_left
 have h2:(l.takeWhile f++l.dropWhile f).drop (l.takeWhile f).length=l.dropWhile f:=List.drop_left
 rw[e] at h1 h2
 exact⟨h1,h2⟩
theorem zi {α:Type}(f:α→Bool)(l:List α):(l.takeWhile f).length≤l.length:=(List.takeWhile_sublist f).length_le
theorem T2 {α:Type}{b:Nat}(f:α→Bool)(l:List α)(p:α)(hl:l.length≤1000)(hb:b≤1000):ins b l (((l.takeWhile f).length:Nat):Int) [p]=some (l.takeWhile f++(p::l.dropWhile f)):=by
 unfold ins
 have h:=zi f l
 have hm:(l.length+1)*b≤1001*1000:=Nat.mul_le_mul (by omega) hb
 rw[aa (show(0:Int)≤((l.takeWhile f).length:Int) by omega),aa (show((l.takeWhile f).length:Int)≤(l.length:Int) by omega),qT (show(l.length+1)*b≤140737488355328 by omega) (by omega),aq,(mI f l).1,(mI f l).2]
 rfl
def nE (l:List zE)(p:zE):List zE:=l.takeWhile (fun q=>wV q p)++(p::l.dropWhile (fun q=>wV q p))
def Iv (l:List zE)(p:zE):List zE:=l.takeWhile (fun q=>iP q p)++(p::l.dropWhile (fun q=>iP q p))
theorem yJz {k:Nat}{l:List zE}(hl:qV l):uW k l=some l:=by
 unfold qV at hl
 unfold uW
 rw[qT (by omega) (by omega)]
 rfl
theorem vYc {k:Nat}(hk:3≤k)(l:List zE)(hl:qV l)(bI:l.length<k)(p:zE):DP k k l 0 p=some (l,(((l.takeWhile (fun q=>wV q p)).length:Nat):Int),p):=by
 unfold qV at hl
 have := DN (L := fun n i => DP k n l i p) (N := l.length) (fun x => wV (l.getD x pd) p) (fun i => (l, (i : Int), p)) (fun n=>by
  show DQ k _ l l.length p=_
  unfold DQ
  simp only [qB, ab (Nat.lt_irrefl _), aj]) (fun n i hi=>by
  show DQ k _ l i p=_
  unfold DQ
  obtain⟨x,h1,h2,_⟩:=yBh hk (l.getD i pd) p
  simp only[pd] at h1
  simp only[qG,qB,aq,aa hi,ai,h1,ae,h2,qK hi (show l.length<9223372036854775808 by omega)]
  cases wV (l.getD i pd) p<;>rfl) l.length 0 k (by omega) bI
 have e:((0:Nat):Int)=0:=rfl
 rw[e] at this
 show DP k k l 0 p=_
 rw[this,DO (fun q=>wV q p) l pd l.length 0 (by omega),List.drop_zero,Nat.zero_add]
theorem T3 {k:Nat}{l:List zE}(hk:3≤k)(bI:l.length<k)(hl:qV l)(p:zE):
  uX k l p=some (bif (vN l p.1).isSome then(l,6) else bif decide (40≤l.length) then(l,3) else(nE l p,0)):=by
 have dG:=hl
 unfold qV at hl
 unfold uX
 rw[Iq bI (by omega)]
 unfold jy
 cases hp:vN l p.1 with
 |some x=>
  have e1:decide ((x:Int)≥0)=true:=aa (by omega)
  simp only[ae,e1,ai,Option.isSome_some]
 |none=>
  have e1:decide ((-1:Int)≥0)=false:=rfl
  simp only[ae,e1,aj,Option.isSome_none]
  by_cases h:40≤l.length
  ·rw[aa h,aa (show(l.length:Int)≥40 by omega)];rfl
  ·rw[ab h,ab (show¬(l.length:Int)≥40 by omega)]
   simp only[aj,vYc hk l dG bI,ae,yJz dG,MD]
   rw[T2 _ l p hl (by decide)]
   rfl
theorem T4 {l:List zE}{x:Nat}(h:qV l):qV (yB l x):=by
 unfold qV at*
 have:=(sR l x).length_le
 omega
def Iw (l:List zE)(id:Int):List zE:=match vN l id with|some x=>yB l x|none=>l
theorem yJj {l:List zE}{id:Int}(hd:qQ l):vN (Iw l id) id=none:=by
 cases h:vN (Iw l id) id with
 |none=>rfl
 |some y=>
  exfalso
  obtain⟨h1,h2⟩:=jz h
  unfold Iw at h h1 h2
  cases hp:vN l id with
  |none=>
   rw[hp] at h
   rw[hp] at h;cases h
  |some x=>
   rw[hp] at h1 h2
   obtain⟨h3,h4⟩:=jz hp
   have hm:=jV (d:=pd) h1
   have e:=Io l x pd h3
   unfold qQ at hd
   rw[e] at hd
   have Ix:=List.pairwise_append.1 hd
   have T5:=List.pairwise_cons.1 Ix.2.1
   simp only at h1 h2 hm
   unfold yB at hm
   rcases List.mem_append.1 hm with hm|hm
   ·exact Ix.2.2 _ hm _ (List.mem_cons_self ..) (h2.trans h4.symm)
   ·exact T5.1 _ hm (h4.trans h2.symm)
theorem vWv {k:Nat}{l:List zE}(hk:3≤k)(bI:l.length<k)(hl:qV l)(hd:qQ l)(h40:l.length≤40){id:Int}{x:Nat}(hx:vN l id=some x)(c:Int):
  DR k l id c=some (nE (yB l x) ((l.getD x pd).1,(l.getD x pd).2.1,(l.getD x pd).2.2.1,(l.getD x pd).2.2.2.1,c,(l.getD x pd).2.2.2.2.2.1,(l.getD x pd).2.2.2.2.2.2),0):=by
 have cM:=jz hx
 have hw:=yJj (id:=id) hd
 unfold Iw at hw
 rw[hx] at hw
 have hlen:=mH cM.1
 unfold DR
 rw[zh bI hl]
 unfold gC
 rw[hx]
 simp only[ae,decide_true,ay,aj]
 rw[T3 hk (by omega) (T4 hl)]
 simp only[cM.2,hw,Option.isSome_none,aj,ab (show¬40≤(yB l x).length by omega),ae]
theorem vG3 {k:Nat}{l:List zE}(hk:3≤k)(bI:l.length<k)(hl:qV l)(hd:qQ l)(h40:l.length≤40){id:Int}{x:Nat}(hx:vN l id=some x):
  DS k l id=some (nE (yB l x) (l.getD x pd),0):=by
 have cM:=jz hx
 have hw:=yJj (id:=id) hd
 unfold Iw at hw
 rw[hx] at hw
 have hlen:=mH cM.1
 unfold DS
 rw[zh bI hl]
 unfold gC
 rw[hx]
 simp only[ae,decide_true,ay,aj]
 rw[T3 hk (by omega) (T4 hl)]
 simp only[cM.2,hw,Option.isSome_none,aj,ab (show¬40≤(yB l x).length by omega),ae]
 simp only[DT]
 rw[←cM.2]
theorem vEu {k:Nat}(hk:3≤k)(l:List zE)(hl:qV l)(bI:l.length<k)(p:zE):DU k k 0 l p=some ((((l.takeWhile (fun q=>iP q p)).length:Nat):Int),l,p):=by
 unfold qV at hl
 have := DN (L := fun n i => DU k n i l p) (N := l.length) (fun x => iP (l.getD x pd) p) (fun i => ((i : Int), l, p)) (fun n=>by
  show DV k _ l.length l p=_
  unfold DV
  simp only [qB, ab (Nat.lt_irrefl _), aj]) (fun n i hi=>by
  show DV k _ i l p=_
  unfold DV
  obtain⟨x,h1,_,h2⟩:=yBh hk (l.getD i pd) p
  simp only[pd] at h1
  simp only[qG,qB,aq,aa hi,ai,h1,ae,h2,qK hi (show l.length<9223372036854775808 by omega)]
  cases iP (l.getD i pd) p<;>rfl) l.length 0 k (by omega) bI
 have e:((0:Nat):Int)=0:=rfl
 rw[e] at this
 show DU k k 0 l p=_
 rw[this,DO (fun q=>iP q p) l pd l.length 0 (by omega),List.drop_zero,Nat.zero_add]
theorem vOm {k:Nat}{l:List zE}(hk:3≤k)(bI:l.length<k)(hl:qV l){id:Int}{x:Nat}(hx:vN l id=some x):
  DW k l id=some (Iv (yB l x) (l.getD x pd),0):=by
 have dG:=hl
 unfold qV at hl
 have cM:=jz hx
 have hlen:=mH cM.1
 have e1:decide ((x:Int)<0)=false:=ab (by omega)
 unfold DW T6
 rw[Iq bI (by omega)]
 unfold jy
 rw[hx]
 simp only[ae,e1,aj,yJz dG,qK cM.1 (show l.length<9223372036854775808 by omega),ySe k cM.1 dG,qG,aa cM.1,ai,aq]
 have e0:decide ((0:Int)=0)=true:=rfl
 simp only[gb,DT,e0,ay,aj]
 rw[vEu hk (yB l x) (T4 dG) (by omega)]
 simp only[ae,MD]
 rw[T2 _ (yB l x) _ (by omega) (by decide)]
 rfl
def jD (l:AC)(id:Int):Nat:=(l.takeWhile (fun x=>decide (x<id))).length
theorem vW6 {x:Int}(h0:0≤x)(h1:x<9223372036854775808):zA (shr .u64 (IntKind.wrap .u64 (zA x)) 1)=x/2:=by
 have e1:zA x=x:=zQ (by omega) h1
 have e2:IntKind.wrap .u64 x=x:=by
  unfold IntKind.wrap
  simp only[IntKind.bits,IntKind.signed,Bool.false_and,Bool.false_eq_true,if_false]
  omega
 rw[e1,e2]
 have e3:shr .u64 x 1=x/2:=by
  unfold shr
  have:(2:Int)^(min (1:Int).toNat (IntKind.bits .u64))=2:=by decide
  rw[this,Int.fdiv_eq_ediv_of_nonneg _ (by omega)]
 rw[e3]
 exact zQ (by omega) (by omega)
theorem vCu (k:Nat)(a b:Int):ME k a b=some (decide (a<b)):=by
 unfold ME MF
 simp only[decide_true,ay,ae,aj]
theorem T7 {k:Nat}{l:AC}{id:Int}(hl:l.length≤1000){c:Nat}(hc:c≤l.length)(h1:∀x,x<c→l.getD x 0<id)(h2:∀x,c≤x→x<l.length→id≤l.getD x 0)(s6:Int):
  ∀(n i j:Nat),i≤c→c≤j→j≤l.length→j-i<n→Iy k n l id s6 i j=some (l,id,s6,(c:Int))
 |0,_,_,_,_,_,h=>absurd h (Nat.not_lt_zero _)
 |n+1,i,j,hi,hj,xB,hn=>by
  show MG k (Iy k n) l id s6 i j=_
  unfold MG
  rw[qB]
  by_cases mi:i<j
  ·have hh:zA (shr .u64 (IntKind.wrap .u64 (zA ((i:Int)+(j:Int)))) 1)=(((i+j)/2:Nat):Int):=by
    rw[vW6 (by omega) (by omega)];omega
   have hm:(i+j)/2<l.length:=by omega
   rw[aa mi,ai,hh,qG,aa hm,ai,vCu]
   simp only[ae,aq]
   by_cases bg:(i+j)/2<c
   ·rw[aa (h1 _ bg),ai,qK hm (by omega)]
    exact T7 hl hc h1 h2 s6 n _ j (by omega) hj xB (by omega)
   ·have:=h2 _ (Nat.not_lt.1 bg) hm
    rw[ab (show¬l.getD ((i+j)/2) 0<id by omega),aj]
    exact T7 hl hc h1 h2 s6 n i _ hi (by omega) (by omega) (by omega)
  ·rw[ab mi,aj]
   have:i=c:=by omega
   rw[this]
theorem T8 {k:Nat}{l:AC}{id:Int}(bI:l.length<k)(hl:l.length≤1000){c:Nat}(hc:c≤l.length)(h1:∀x,x<c→l.getD x 0<id)(h2:∀x,c≤x→x<l.length→id≤l.getD x 0):
  DX k l id=some ((c:Int),decide (c<l.length)&&decide (l.getD c 0=id)):=by
 unfold DX
 have:=T7 (k:=k) hl hc h1 h2 (l.length:Int) k 0 l.length (by omega) hc (Nat.le_refl _) (by omega)
 rw[show((0:Nat):Int)=0 from rfl] at this
 rw[this]
 simp only[ae,qB,qG,aq]
 by_cases h:c<l.length
 ·simp only[aa h,ai,Bool.true_and]
  by_cases h3:l.getD c 0=id
  ·rw[aa h3];rfl
  ·rw[ab h3]
   unfold MH
   simp only[decide_true,aj,ae,ay]
 ·simp only[ab h,aj,Bool.false_and]
def uY (l:AC):Prop:=List.Pairwise (fun a b=>a<b) l
theorem yLc {l:AC}{id:Int}:∀x,x<jD l id→l.getD x 0<id:=by
 intro x hx
 unfold jD at hx
 have h:=mI (fun x=>decide (x<id)) l
 have e:l.getD x 0=(l.takeWhile (fun x=>decide (x<id))).getD x 0:=by
  rw[←h.1,List.getD_eq_getElem?_getD,List.getD_eq_getElem?_getD,List.getElem?_take,if_pos hx]
 rw[e]
 have hm:=jV (d:=(0:Int)) hx
 have:=List.all_eq_true.1 (List.all_takeWhile (p:=fun x=>decide (x<id)) (l:=l)) _ hm
 simpa using this
theorem yOs {l:AC}(ha:uY l){id:Int}:∀x,jD l id≤x→x<l.length→id≤l.getD x 0:=by
 intro x hx hl
 have hi:jD l id<l.length:=by omega
 have h:=mI (fun x=>decide (x<id)) l
 have h0:¬l.getD (jD l id) 0<id:=by
  have hd:l.drop (jD l id)=l[jD l id]::l.drop (jD l id+1):=List.drop_eq_getElem_cons hi
  have h2:=h.2
  unfold jD at hd
  rw[h2] at hd
  have bm:l.dropWhile (fun x=>decide (x<id))≠[]:=by rw[hd];simp
  have:=List.head_dropWhile_not (fun x=>decide (x<id)) bm
  have e:(l.dropWhile (fun x=>decide (x<id))).head bm=l[jD l id]:=by
   unfold jD
   simp only[hd,List.head_cons]
  rw[e] at this
  rw[List.getD_eq_getElem?_getD,List.getElem?_eq_getElem hi]
  simpa using this
 by_cases e:x=jD l id
 ·rw[e];omega
 ·have:=List.pairwise_iff_getElem.1 ha (jD l id) x hi hl (by omega)
  rw[List.getD_eq_getElem?_getD,List.getElem?_eq_getElem hl]
  rw[List.getD_eq_getElem?_getD,List.getElem?_eq_getElem hi] at h0
  simp only[Option.getD_some] at h0⊢
  omega
theorem vO8 {l:AC}(ha:uY l)(id:Int):(decide (jD l id<l.length)&&decide (l.getD (jD l id) 0=id))=decide (id∈l):=by
 by_cases hm:id∈l
 ·obtain⟨x,hx,e⟩:=List.getElem_of_mem hm
  have e':l.getD x 0=id:=by rw[List.getD_eq_getElem?_getD,List.getElem?_eq_getElem hx];exact e
  have h1:¬x<jD l id:=fun h=>by have:=yLc x h;omega
  have h3:jD l id<l.length:=by omega
  have h4:¬jD l id<x:=fun h=>by
   have g1:=yOs ha (id:=id) (jD l id) (Nat.le_refl _) h3
   have g2:=List.pairwise_iff_getElem.1 ha (jD l id) x h3 hx h
   rw[List.getD_eq_getElem?_getD,List.getElem?_eq_getElem h3] at g1
   simp only[Option.getD_some] at g1
   omega
  have h5:jD l id=x:=by omega
  rw[aa hm,aa h3,h5,aa e'];rfl
 ·rw[ab hm]
  by_cases h:jD l id<l.length
  ·rw[ab (show¬l.getD (jD l id) 0=id from fun e=>hm (e▸jV h)),Bool.and_false]
  ·rw[ab h];rfl
def oL (l:AC)(id:Int):AC:=l.takeWhile (fun x=>decide (x<id))++(id::l.dropWhile (fun x=>decide (x<id)))
theorem vVm {k:Nat}{l:AC}(bI:l.length<k)(hl:l.length≤1000)(ha:uY l)(id:Int):DX k l id=some ((jD l id:Int),decide (id∈l)):=by
 rw[T8 bI hl (zi _ l) yLc (yOs ha)]
 show some ((jD l id:Int),decide (jD l id<l.length)&&decide (l.getD (jD l id) 0=id))=_
 rw[vO8 ha]
theorem vMx {k:Nat}{l:AC}(bI:l.length<k)(hl:l.length≤1000)(ha:uY l)(id:Int):
  DY k l id=some (bif decide (id∈l) then(l,6) else bif decide (200≤l.length) then(l,3) else(oL l id,0)):=by
 unfold DY
 rw[vVm bI hl ha]
 simp only[ae]
 by_cases hm:id∈l
 ·rw[aa hm];rfl
 ·rw[ab hm]
  simp only[aj]
  by_cases h:200≤l.length
  ·rw[aa h,aa (show(l.length:Int)≥200 by omega)];rfl
  ·rw[ab h,ab (show¬(l.length:Int)≥200 by omega)]
   have e2:oG k l=some l:=by
    unfold oG
    rw[qT (by omega) (by omega)]
    rfl
   simp only[aj,e2,ae,vAu]
   unfold jD
   rw[T2 _ l id hl (by decide)]
   rfl
def kx (l:AC):Int:=zP (fun x=>x) l
def DZ (x:Int):Bool:=decide (-9223372036854775808≤x)&&decide (x<9223372036854775808)
theorem qY7 x:shr .i64 x 63=x/9223372036854775808:=by
 show x.fdiv (2^(min 63 64))=_
 grind
theorem oM x:IntKind.wrap .u64 x=x%18446744073709551616:=by
 rfl
theorem vJ5 {x}(h:0≤x∧x<18446744073709551616):zA x=if x<9223372036854775808 then x else x-18446744073709551616:=by
 unfold zA IntKind.wrap
 simp[IntKind.bits,IntKind.signed]
 grind
theorem vEg (l:AC) i (hi:i<l.length):kx (l.take (i+1))=kx (l.take i)+l.getD i 0:=by
 have:l.take (i+1)=l.take i++[l.getD i 0]:=by
  simp_all
 unfold kx
 rw[this,la]
 simp[zP]
theorem T9 {k l}(hk:l.length<k)(hl:l.length≤1000000)(hw:∀i,i<l.length→-9223372036854775808≤l.getD i 0∧l.getD i 0<9223372036854775808):
  Iz k l=some (bif DZ (kx l) then(kx l,true) else(0,false)):=by
 obtain ⟨s', g1, g2, g3, g4⟩ := vC (L := fun n i (s : Int × Int) => D3 k n s.1 s.2 l (l.length : Int) i) (N := l.length) (fun s => (s.1, s.2)) (fun i s => (0 ≤ s.2 ∧ s.2 < 18446744073709551616) ∧ s.1 * 18446744073709551616 + s.2 = kx (l.take i) ∧ (-(i : Int) ≤ s.1 ∧ s.1 ≤ i)) (fun n s _=>by
  show D4 k _ s.1 s.2 l l.length l.length=_
  unfold D4
  simp only [qB, ab (Nat.lt_irrefl _), aj]) (fun n i s hi hs=>by
  obtain⟨h,lo⟩:=s
  obtain⟨⟨h1,h2⟩,h3,h4⟩:=hs
  simp only at h1 h2 h3 h4
  show∃s',D4 k _ h lo l l.length i=_∧_
  unfold D4 Cf
  have hb:=hw i hi
  have hsn:=vEg l i hi
  obtain⟨v,hv⟩:∃v,l.getD i 0=v:=⟨_,rfl⟩
  rw[hv] at hb hsn
  simp only[qB,qG,aq,aa hi,ai,hv,oM,qY7,decide_true,ae,qK hi (show l.length<9223372036854775808 by omega)]
  obtain⟨u,hu⟩:∃u,v%18446744073709551616=u:=⟨_,rfl⟩
  rw[hu]
  obtain⟨q,hq⟩:∃q,v/9223372036854775808=q:=⟨_,rfl⟩
  rw[hq]
  have pD:u=v-q*18446744073709551616:=by omega
  have nF:q=0∨q= -1:=by omega
  obtain⟨a,ha⟩:∃a:Nat,lo.toNat+u.toNat+0=a:=⟨_,rfl⟩
  rw[ha]
  have nf:(a:Int)=lo+u:=by omega
  obtain⟨c,hc⟩:∃c:Nat,a/18446744073709551616=c:=⟨_,rfl⟩
  obtain⟨m,hm⟩:∃c:Nat,a%18446744073709551616=c:=⟨_,rfl⟩
  rw[hc,hm]
  have SU:a=c*18446744073709551616+m:=by omega
  have uD:m<18446744073709551616:=by omega
  have kJ:c≤1:=by omega
  have e1:zA (Int.ofNat c)=(c:Int):=zQ (by show(_:Int)≤((c:Nat):Int);omega) (by show((c:Nat):Int)<_;omega)
  have e2:zA (q+(c:Int))=q+c:=zQ (by omega) (by omega)
  have e3:zA (h+(q+(c:Int)))=h+(q+c):=zQ (by omega) (by omega)
  rw[e1,e2,e3]
  refine⟨(h+(q+c),(m:Int)),rfl,by grind,?_,?_⟩
  ·rw[hsn]
   show(h+(q+c))*18446744073709551616+(m:Int)=_
   omega
  ·show-((i+1:Nat):Int)≤h+(q+c)∧h+(q+c)≤((i+1:Nat):Int)
   omega) (s:=(0,0)) hk ⟨⟨by show(0:Int)≤0;omega,by show(0:Int)<_;omega⟩,rfl,by show-((0:Nat):Int)≤0;omega,by show(0:Int)≤((0:Nat):Int);omega⟩
 have sS:D3 k k 0 0 l (l.length:Int) 0=some (s'.1,s'.2):=g1
 rw[List.take_length] at g3
 unfold Iz
 rw[sS]
 simp only[ae,qY7]
 rw[vJ5 g2]
 by_cases c:DZ (kx l)=true
 ·have c':-9223372036854775808≤kx l∧kx l<9223372036854775808:=by simpa[DZ] using c
  rw[c]
  by_cases d:s'.2<9223372036854775808
  ·rw[if_pos d,aa (show s'.1=s'.2/9223372036854775808 by omega)]
   simp only[ay,aj,ai]
   rw[show s'.2=kx l by omega]
  ·rw[if_neg d,aa (show s'.1=(s'.2-18446744073709551616)/9223372036854775808 by omega)]
   simp only[ay,aj,ai]
   rw[show s'.2-18446744073709551616=kx l by omega]
 ·have c':¬(-9223372036854775808≤kx l∧kx l<9223372036854775808):=by simpa[DZ] using c
  rw[Bool.not_eq_true] at c
  rw[c]
  by_cases d:s'.2<9223372036854775808
  ·rw[if_pos d,ab (show¬s'.1=s'.2/9223372036854775808 by omega)]
   rfl
  ·rw[if_neg d,ab (by grind)]
   rfl
theorem Ua {x:Int}(h:0≤x):yJ .u64 x 4294967295=x%4294967296:=by
 obtain⟨n,rfl⟩:=Int.eq_ofNat_of_zero_le h
 unfold yJ rC
 rw[oM]
 have e1:(BitVec.ofInt IntKind.u64.bits (n:Int)&&&BitVec.ofInt IntKind.u64.bits 4294967295).toNat=n%4294967296:=by
  rw[BitVec.toNat_and,BitVec.toNat_ofInt,BitVec.toNat_ofInt]
  have e2:((4294967295:Int)%((2^IntKind.u64.bits:Nat):Int)).toNat=2^32-1:=by decide
  rw[e2,Nat.and_two_pow_sub_one_eq_mod]
  have e3:((n:Int)%((2^IntKind.u64.bits:Nat):Int)).toNat=n%18446744073709551616:=by
   show((n:Int)%((18446744073709551616:Nat):Int)).toNat=_
   omega
  rw[e3]
  show n%18446744073709551616%4294967296=_
  omega
 rw[e1]
 omega
theorem vYl (x:Int):shr .u64 x 32=x/4294967296:=by
 show x.fdiv (2^(min 32 64))=_
 rw[Int.fdiv_eq_ediv_of_nonneg _ (by decide)]
 rfl
theorem vNk {a1 a0 b1 b0:Int}:(a1*4294967296+a0)*(b1*4294967296+b0)=a1*b1*18446744073709551616+(a1*b0+a0*b1)*4294967296+a0*b0:=by
 rw[Int.add_mul,Int.mul_add,Int.mul_add]
 have e1:a1*4294967296*(b1*4294967296)=a1*b1*18446744073709551616:=by
  rw[Int.mul_assoc,←Int.mul_assoc 4294967296 b1,Int.mul_comm 4294967296 b1,Int.mul_assoc b1,←Int.mul_assoc];rfl
 have e2:a1*4294967296*b0=a1*b0*4294967296:=by rw[Int.mul_assoc,Int.mul_comm 4294967296 b0,←Int.mul_assoc]
 have e3:a0*(b1*4294967296)=a0*b1*4294967296:=by rw[←Int.mul_assoc]
 rw[e1,e2,e3]
 omega
theorem vY {a b A B:Int}(h0:0≤a)(h1:a≤A)(g0:0≤b)(g1:b≤B):0≤a*b∧a*b≤A*B:=
 ⟨Int.mul_nonneg h0 g0,Int.mul_le_mul h1 g1 g0 (by omega)⟩
theorem yDw (k:Nat){x y:Int}(hx:0≤x∧x<18446744073709551616)(hy:0≤y∧y<18446744073709551616):IA k x y=some (x*y/18446744073709551616,x*y%18446744073709551616):=by
 unfold IA
 simp only[vYl,Ua hx.1,Ua hy.1,oM]
 obtain⟨a1,h1⟩:∃a,x/4294967296=a:=⟨_,rfl⟩
 obtain⟨a0,h0⟩:∃a,x%4294967296=a:=⟨_,rfl⟩
 obtain⟨b1,g1⟩:∃a,y/4294967296=a:=⟨_,rfl⟩
 obtain⟨b0,g0⟩:∃a,y%4294967296=a:=⟨_,rfl⟩
 have hxe:x=a1*4294967296+a0:=by omega
 have hye:y=b1*4294967296+b0:=by omega
 rw[h1,h0,g1,g0]
 have zj:0≤a1∧a1≤4294967295:=by omega
 have mm:0≤a0∧a0≤4294967295:=by omega
 have iG:0≤b1∧b1≤4294967295:=by omega
 have MI:0≤b0∧b0≤4294967295:=by omega
 have p11:=vY zj.1 zj.2 iG.1 iG.2
 have sv:=vY zj.1 zj.2 MI.1 MI.2
 have p01:=vY mm.1 mm.2 iG.1 iG.2
 have p00:=vY mm.1 mm.2 MI.1 MI.2
 have Ma:x*y=a1*b1*18446744073709551616+(a1*b0+a0*b1)*4294967296+a0*b0:=by rw[hxe,hye,vNk]
 rw[Ma]
 generalize a1*b1=u at*
 generalize a1*b0=v at*
 generalize a0*b1=s at*
 generalize a0*b0=t at*
 have c1:(t%18446744073709551616)=t:=by omega
 have c2:(v%18446744073709551616+t/4294967296)%18446744073709551616=v+t/4294967296:=by omega
 rw[c1,c2]
 have IB:yJ .u64 (v+t/4294967296) 4294967295=(v+t/4294967296)%4294967296:=Ua (by omega)
 rw[IB]
 refine congrArg some (Prod.ext ?_ ?_)
 ·show _%_=_/_
  omega
 ·rfl
theorem vO1 (k:Nat){x:Int}(hx:0≤x∧x<18446744073709551616):MJ k 0 x 10000=some (x/10000,x%10000):=by
 unfold MJ
 have e1:decide ((10000:Int)=0)=false:=rfl
 have e2:decide ((10000:Int)≤0)=false:=rfl
 simp only[e1,e2,decide_true,aj,ai,bx,oM]
 rw[Int.tdiv_eq_ediv_of_nonneg hx.1,Int.tmod_eq_emod_of_nonneg hx.1]
 have:x/10000%18446744073709551616=x/10000:=by omega
 rw[this]
def sU (price many cut:Int):Int:=price*many*(10000-cut)/10000
theorem yAn {p m c:Int}(hp:0≤p∧p≤1048576)(hm:0≤m∧m≤1099511627776)(hc:0≤c∧c≤10000):0≤sU p m c∧sU p m c≤1152921504606846976:=by
 have h1:=vY hp.1 hp.2 hm.1 hm.2
 have h2:=vY h1.1 h1.2 (show 0≤10000-c by omega) (show 10000-c≤10000 by omega)
 unfold sU
 generalize p*m*(10000-c)=z at*
 omega
theorem vIz (k:Nat){p m c:Int}(hp:0≤p∧p≤1048576)(hm:0≤m∧m≤1099511627776)(hc:0≤c∧c≤10000):MK k p m c=some (sU p m c,true):=by
 unfold MK Ub
 have w1:zA (10000-c)=10000-c:=zQ (by omega) (by omega)
 have e1:decide (p<0)=false:=ab (by omega)
 have e2:decide (m<0)=false:=ab (by omega)
 have e3:decide (c≥0)=true:=aa (by omega)
 have e4:decide (c≤10000)=true:=aa (by omega)
 have u1:p%18446744073709551616=p:=by omega
 have u2:m%18446744073709551616=m:=by omega
 have u3:(10000-c)%18446744073709551616=10000-c:=by omega
 have h1:=vY hp.1 hp.2 hm.1 hm.2
 have hP:p*m/18446744073709551616=0:=by omega
 have hP2:p*m%18446744073709551616=p*m:=by omega
 have t0:Int.tmod 0 10000=0:=by simp
 have t1:Int.tdiv 0 10000=0:=by simp
 rw[e1,e2,e3,e4,aj,aj,ai,ae,ay,aj,oM p,oM m,u1,u2,yDw k (show 0≤p∧p<18446744073709551616 by omega) (show 0≤m∧m<18446744073709551616 by omega),ae,hP,hP2]
 dsimp only
 rw[t0,t1,vO1 k (show 0≤p*m∧p*m<18446744073709551616 by omega),ae]
 dsimp only
 rw[w1,oM (10000-c),u3]
 unfold sU
 obtain⟨l,hl⟩:∃l,10000-c=l:=⟨_,rfl⟩
 rw[hl]
 obtain⟨P,hPe⟩:∃P,p*m=P:=⟨_,rfl⟩
 rw[hPe] at h1⊢
 have dG:0≤l∧l≤10000:=by omega
 rw[yDw k (show 0≤P/10000∧P/10000<18446744073709551616 by omega) (show 0≤l∧l<18446744073709551616 by omega)]
 have hq:=vY (show 0≤P/10000 by omega) (show P/10000≤115292150460684 by omega) dG.1 dG.2
 have hr:=vY (show 0≤P%10000 by omega) (show P%10000≤9999 by omega) dG.1 dG.2
 have zk:P*l=P/10000*l*10000+P%10000*l:=by
  have:P=P/10000*10000+P%10000:=by omega
  have e:P/10000*l*10000=P/10000*10000*l:=by rw[Int.mul_assoc,Int.mul_comm l,←Int.mul_assoc]
  rw[e,←Int.add_mul,←this]
 rw[zk]
 generalize P/10000*l=a at*
 generalize P%10000*l=b at*
 have v1:a/18446744073709551616=0:=by omega
 have v2:a%18446744073709551616=a:=by omega
 have v3:b%18446744073709551616=b:=by omega
 have v4:Int.tdiv b 10000=b/10000:=Int.tdiv_eq_ediv_of_nonneg hr.1
 have v5:b/10000%18446744073709551616=b/10000:=by omega
 have ha:Cf k a (b/10000) 0=some (a+b/10000,0):=by
  have n1:(Int.ofNat ((a.toNat+(b/10000).toNat+0)%18446744073709551616))=a+b/10000:=by rw[Int.ofNat_eq_natCast];omega
  have n2:(Int.ofNat ((a.toNat+(b/10000).toNat+0)/18446744073709551616))=0:=by rw[Int.ofNat_eq_natCast];omega
  unfold Cf
  rw[aa rfl,ai,n1,n2]
 rw[ae]
 dsimp only
 rw[v1,v2,oM b,v3,v4,oM (b/10000),v5,ha,ae]
 dsimp only
 have z1:IntKind.wrap .u64 0=0:=by rw[oM];omega
 have z2:IntKind.wrap .u64 (0+0)=0:=by rw[oM];omega
 have z3:decide ((0:Int)>0)=false:=ab (by omega)
 have z4:decide (a+b/10000>9223372036854775807)=false:=ab (by omega)
 have z5:zA (a+b/10000)=a+b/10000:=zQ (by omega) (by omega)
 rw[z1,z2,z3,z4,z5,aj,aj,aj]
 have:(a*10000+b)/10000=a+b/10000:=by omega
 rw[this]
abbrev gV:=Int×Int
abbrev sV:gV:=(0,0)
def ld (sa:List gV)(pr h:AC)(i:Nat):Int:=sU (pr.getD i 0) (h.getD i 0) (sa.getD i sV).2
def lT (sa:List gV)(pr h:AC):Int:=qJ (ld sa pr h) sa.length
structure j0 (sa:List gV) (pr h:AC):Prop where
 n3:sa.length≤3
 pl:pr.length=sa.length
 hl:h.length=sa.length
 cut:∀i,i<sa.length→0≤(sa.getD i sV).2∧(sa.getD i sV).2≤10000
 price:∀i,i<sa.length→0≤pr.getD i 0∧pr.getD i 0≤1048576
 hold:∀i,i<sa.length→0≤h.getD i 0∧h.getD i 0≤1099511627776
theorem IC {sa:List gV}{pr h:AC}(L:j0 sa pr h){i:Nat}(hi:i<sa.length):0≤ld sa pr h i∧ld sa pr h i≤1152921504606846976:=yAn (L.price i hi) (L.hold i hi) (L.cut i hi)
theorem yKv (g:Nat→Int):∀n,kx ((List.range n).map g)=qJ g n
 |0=>rfl
 |n+1=>by
  rw[List.range_succ,List.map_append]
  unfold kx
  rw[la]
  have:=yKv g n
  unfold kx at this
  rw[this]
  show qJ g n+(g n+0)=qJ g n+g n
  omega
theorem ML {g:Nat→Int}{A:Int}:∀{n:Nat},(∀j,j<n→0≤g j∧g j≤A)→0≤qJ g n∧qJ g n≤n*A
 |0,_=>by simp[qJ]
 |n+1,h=>by
  have h1:=ML (n:=n) (fun j hj=>h j (by omega))
  have h2:=h n (by omega)
  have h3:((n+1:Nat):Int)*A=n*A+A:=by rw[Int.natCast_add,Int.add_mul];simp
  rw[h3]
  show 0≤qJ g n+g n∧qJ g n+g n≤_
  omega
theorem vGe {k:Nat}{sa:List gV}{pr h:AC}(L:j0 sa pr h)(hk:10≤k):D5 k k pr h sa sa.length 0 []=some (.inl ((List.range sa.length).map (ld sa pr h))):=by
 have hn:=L.n3
 obtain ⟨s', h1, h2⟩ := vC (L := fun n i (s : AC) => D5 k n pr h sa sa.length i s) (N := sa.length) (fun s => .inl s) (fun i s => s = (List.range i).map (ld sa pr h)) (fun n s _=>by
  show D6 k _ pr h sa sa.length sa.length s=_
  unfold D6
  simp only [qB, ab (Nat.lt_irrefl _), aj]) (fun n i s hi hs=>by
  refine⟨s++[ld sa pr h i],?_,?_⟩
  ·show D6 k _ pr h sa sa.length i s=_
   unfold D6
   have eF:s.length≤3:=by rw[hs,List.length_map,List.length_range];omega
   have hw:=vIz k (L.price i hi) (L.hold i hi) (L.cut i hi)
   simp only[qB,qG,aq,aa hi,aa (show i<pr.length by rw[L.pl];exact hi),aa (show i<h.length by rw[L.hl];exact hi),ai,qK hi (show sa.length<9223372036854775808 by omega)]
   rw[hw]
   simp only[ae,ay,aj,qT (show(s.length+1)*8≤140737488355328 by omega) (show s.length+1≤140737488355328 by omega),ai]
   rfl
  ·rw[hs,List.range_succ,List.map_append];rfl) (s:=[]) (show sa.length<k by omega) rfl
 have df:D5 k k pr h sa sa.length 0 []=_:=h1
 rw[df,h2]
theorem yOh {k:Nat}{sa:List gV}{pr h:AC}(L:j0 sa pr h)(hk:10≤k):qi k sa pr h=some (lT sa pr h,true):=by
 have hn:=L.n3
 have hb:=ML (g:=ld sa pr h) (n:=sa.length) (fun j hj=>IC L hj)
 have hm:(sa.length:Int)*1152921504606846976≤3*1152921504606846976:=Int.mul_le_mul_of_nonneg_right (by omega) (by decide)
 unfold qi
 have e1:decide ((pr.length:Int)=(sa.length:Int))=true:=aa (by rw[L.pl])
 have e2:decide ((h.length:Int)=(sa.length:Int))=true:=aa (by rw[L.hl])
 simp only[e1,e2,ay,aj]
 rw[vGe L hk]
 simp only[ae]
 rw [T9 (by rw [List.length_map, List.length_range]; omega) (by rw [List.length_map, List.length_range]; omega) (fun i hi=>by
  rw[List.length_map,List.length_range] at hi
  have:=IC L hi
  have e:((List.range sa.length).map (ld sa pr h)).getD i 0=ld sa pr h i:=by
   rw[List.getD_eq_getElem?_getD,List.getElem?_map,List.getElem?_range hi];rfl
  rw[e];omega)]
 rw[yKv]
 have e3:DZ (qJ (ld sa pr h) sa.length)=true:=by
  unfold DZ
  rw[aa (by omega),aa (by omega)];rfl
 rw[e3]
 rfl
theorem D7 {sa:List gV}{pr h:AC}(L:j0 sa pr h):0≤lT sa pr h:=(ML (g:=ld sa pr h) (n:=sa.length) (fun j hj=>IC L hj)).1
theorem yA3 {k:Nat}{l:AC}(hl:l.length≤1000){i:Int}(h0:0≤i)(h1:i<l.length)(v:Int):oN k l i v=some (l.set i.toNat v):=by
 unfold oN
 have e2:oG k l=some l:=by
  unfold oG
  rw[qT (by omega) (by omega)]
  rfl
 simp only[e2,ae,aa (show i≥0 by omega),aa h1,ai,iM h0 h1]
theorem MM {a b m p l r}(hb:wM a b m p)(h:qd a b m p l r):
  qJ (fun i=>(r.1.getD i ad).1) a.length=qJ (fun i=>(a.getD i ad).1) a.length∧wM r.1 r.2.1 r.2.2.1 r.2.2.2.1∧(r.2.2.2.2=0∨(r.1=a∧r.2.1=b∧r.2.2.1=m∧r.2.2.2.1=p)):=by
 by_cases c:vW a.length l
 ·obtain⟨a',p',x,e⟩:=h.1 c
  cases hi:lQ a' b m p' with
  |false=>
   simp_all
  |true=>
   rw[hi] at e
   subst e
   refine⟨?_,Tm.1 hi,.inl rfl⟩
   have e1:qJ (fun i=>(a'.getD i ad).1) a.length=qJ (fun i=>(a.getD i ad).1+zP (gB i) l) a.length:=oB fun j hj=>by rw[x.acct j hj]
   show qJ (fun i=>(a'.getD i ad).1) a.length=_
   rw[e1,Ck,LA]
   have e2:zP (fun p=>qJ (fun j=>gB j p) a.length) l=zP (fun _=>(0:Int)) l:=Ly fun p hp=>by
    obtain⟨f0,f1,t0,t1,ne,a1,a2,c1,c3⟩:=c.1 p hp
    obtain⟨f,hf⟩:∃f:Nat,p.2.1=f:=⟨p.2.1.toNat,by omega⟩
    obtain⟨t,ht⟩:∃t:Nat,p.2.2.1=t:=⟨p.2.2.1.toNat,by omega⟩
    have g1:∀j,gB j p=(if j=t then p.2.2.2.1 else 0)+(if j=f then-p.2.2.2.1 else 0):=by
     unfold gB
     omega
    rw[oB fun j _=>g1 j,Ck,yi,yi,if_pos (by omega),if_pos (by omega)]
    omega
   have e3:∀l:List zE,zP (fun _:zE=>(0:Int)) l=0:=by
    intro l
    induction l with
    |nil=>rfl
    |cons p l ih=>show 0+zP _ l=0;omega
   simp_all
 ·have e:=h.2 c
  simp_all
abbrev BT:=List qO×EQ×AC×EQ
def qU (B:BT):Prop:=wM B.1 B.2.1 B.2.2.1 B.2.2.2
theorem D8 {k}(hk:100<k){B}(h:qU B){l:List zE}(hl:l.length≤80):
  ∃r,oI k B.1 B.2.1 B.2.2.1 B.2.2.2 l=some r∧yw k B.1 B.2.1 B.2.2.1 B.2.2.2 l=some r∧qd B.1 B.2.1 B.2.2.1 B.2.2.2 l r:=by
 obtain⟨r,h1,h2⟩:=Mb hk h hl
 obtain⟨r',h3,h4⟩:=vVd hk h hl
 have:=h2.same h4
 simp_all
def sW (B:BT)(l:List zE):Bool:=uU B.1 B.2.1 B.2.2.1 B.2.2.2 l
def gD (k:Nat)(B:BT)(l:List zE):Option BT:=match oI k B.1 B.2.1 B.2.2.1 B.2.2.2 l with
 |some r=>bif decide (r.2.2.2.2=0)&&sW B l then some (r.1,r.2.1,r.2.2.1,r.2.2.2.1) else none
 |none=>none
theorem ql {k}(hk:100<k){B C}(h:qU B){l}(hl:l.length≤80)(hg:gD k B l=some C):qU C∧C.1.length=B.1.length:=by
 obtain⟨r,h1,h2,h3⟩:=D8 hk h hl
 unfold gD at hg
 rw[h1] at hg
 simp only at hg
 cases hc:decide (r.2.2.2.2=0)&&sW B l with
 |false=>
  simp_all
 |true=>
  rw[hc] at hg
  simp  at hg
  subst hg
  refine⟨(MM h h3).2.1,?_⟩
  by_cases c:vW B.1.length l
  ·obtain⟨a',p',x,e⟩:=h3.1 c
   cases hi:lQ a' B.2.1 B.2.2.1 p' with
   |false=>simp_all
   |true=>rw[hi] at e;subst e;exact x.al
  ·rw[h3.2 c]
def fh (k:Nat)(B:BT):List zE→Option (zE×BT)
 |[]=>none
 |p::l=>match gD k B [p] with
  |some C=>some (p,C)
  |none=>fh k B l
theorem zl {k B C p}:∀{l},fh k B l=some (p,C)→p∈l∧gD k B [p]=some C
 |q::l,h=>by
  unfold fh at h
  cases hg:gD k B [q] with
  |some D=>
   simp_all
  |none=>
   rw[hg] at h
   have:=zl h
   simp_all
theorem yLu k B {m:List zE}{i}(hi:i<m.length):fh k B (m.drop i)=match gD k B [m.getD i pd] with
  |some C=>some (m.getD i pd,C)
  |none=>fh k B (m.drop (i+1)):=by
 rw[List.drop_eq_getElem_cons hi]
 have e:m.getD i pd=m[i]:=by simp_all
 rw[e]
 rfl
theorem MN l t:(vZ l t).length≤l.length:=Nat.le_trans (List.length_filter_le _ _) (by grind)
theorem vQh m i (hi:i<m.length):qZ m (0+i) (i+1-i)=[m.getD i pd]:=by
 unfold qZ
 rw[Nat.zero_add,show i+1-i=1 by omega,List.drop_eq_getElem_cons hi,List.getD_eq_getElem?_getD,List.getElem?_eq_getElem hi]
 rfl
def jT (l:List zE)(id:Int):List zE:=(gC l id).1
theorem sX {l p}(h:p∈l):(jT l p.1).length+1=l.length∧List.Sublist (jT l p.1) l:=by
 obtain⟨x,hx⟩:=My h
 unfold jT gC
 rw[hx]
 have:=(jz hx).1
 refine⟨?_,sR l x⟩
 rw[mH this]
 omega
theorem D9 {l t p}(h:p∈vZ l t):p∈l:=(List.mem_filter.1 (List.mem_filter.1 h).1).1
inductive gd (k:Nat) (t:Int):BT→List zE→List zE→BT→List zE→Prop
 |stop {B:BT} {l:List zE} (h:fh k B (vZ l t)=none):gd k t B l [] B l
 |step {B C D:BT} {l m done:List zE} {p:zE} (h:fh k B (vZ l t)=some (p,C)) (h':gd k t C (jT l p.1) done D m):gd k t B l (p::done) D m
theorem yK7 {k}(hk:100<k){B}(h:qU B){l:List zE}(hl:l.length≤80):zc k B.1 B.2.1 B.2.2.1 B.2.2.2 l=some (sW B l):=vSh hk h hl
theorem yMp {k}(hk:100<k){B}(h:qU B)(m:List zE)(hm:m.length≤1000):∀c i n,i+c=m.length→c<n→
  ID k n m.length i B.1 B.2.1 B.2.2.1 B.2.2.2 0 0 0 0 0 0 0 m = some (match fh k B (m.drop i) with
   |some (p,C)=>.inr (true,p.1,p.2.1,p.2.2.1,p.2.2.2.1,p.2.2.2.2.1,p.2.2.2.2.2.1,p.2.2.2.2.2.2,C.1,C.2.1,C.2.2.1,C.2.2.2)
   |none=>.inl (B.1,B.2.1,B.2.2.1,B.2.2.2,0,0,0,0,0,0,0))
 |0,i,n,e,hn=>by
  obtain⟨n,rfl⟩:∃x,n=x+1:=⟨n-1,by omega⟩
  have:i=m.length:=by omega
  subst this
  show Ea k _ m.length m.length B.1 B.2.1 B.2.2.1 B.2.2.2 0 0 0 0 0 0 0 m=_
  unfold Ea
  simp
  rfl
 |c+1,i,n,e,hn=>by
  obtain⟨n,rfl⟩:∃x,n=x+1:=⟨n-1,by omega⟩
  have hi:i<m.length:=by omega
  have ih:=yMp hk h m hm c (i+1) n (by omega) (by omega)
  show Ea k _ m.length i B.1 B.2.1 B.2.2.1 B.2.2.2 0 0 0 0 0 0 0 m=_
  unfold Ea
  obtain⟨r,h1,h2,h3⟩:=D8 hk h (l:=[m.getD i pd]) (by simp)
  have hf:=yK7 hk h (l:=[m.getD i pd]) (by simp)
  simp[qG,qK hi (by grind)]
  rw[yLu k B hi]
  unfold gD
  grind
def yQ4 (B:BT)(x:Option (zE×BT)):Int×Int×Int×Int×Int×Int×Int×(List (Int×Int×Int))×EQ×AC×EQ×Bool:=match x with
 |some (p,C)=>(p.1,p.2.1,p.2.2.1,p.2.2.2.1,p.2.2.2.2.1,p.2.2.2.2.2.1,p.2.2.2.2.2.2,C.1,C.2.1,C.2.2.1,C.2.2.2,true)
 |none=>(0,0,0,0,0,0,0,B.1,B.2.1,B.2.2.1,B.2.2.2,false)
theorem vP5 {k}(hk:100<k){B}(h:qU B){l}(bI:l.length<k)(hl:qV l)(hd:qQ l) t:MO k B.1 B.2.1 B.2.2.1 B.2.2.2 l t=some (yQ4 B (fh k B (vZ l t))):=by
 unfold MO
 rw[yF6 bI hl hd]
 have Eb:=MN l t
 unfold qV at hl
 have:=yMp hk h (vZ l t) (by omega) (vZ l t).length 0 k (by omega) (by omega)
 have e:((0:Nat):Int)=0:=rfl
 rw[e,List.drop_zero] at this
 simp
 rw[this]
 cases fh k B (vZ l t) with
 |none=>rfl
 |some x=>rfl
theorem qY0 {k}(hk:100<k) t:∀n B (l r:List zE),qU B→qQ l→l.length≤100→l.length<n→r.length+l.length≤1000→
  ∃(C:BT) (m done:List zE),IE k n t l B.1 B.2.1 B.2.2.1 B.2.2.2 r=some (m,C.1,C.2.1,C.2.2.1,C.2.2.2,r++done)∧gd k t B l done C m∧qU C∧C.1.length=B.1.length∧List.Sublist m l
 |n+1,B,l,r,hb,hd,hl,hn,hr=>by
  have h1:=vP5 hk hb (l:=l) (by omega) (by show l.length≤1000;omega) hd t
  cases hx:fh k B (vZ l t) with
  |none=>
   rw[hx] at h1
   refine⟨B,l,[],?_,.stop hx,hb,rfl,by simp⟩
   show Ec k _ t l B.1 B.2.1 B.2.2.1 B.2.2.2 r=_
   unfold Ec
   rw[h1]
   simp only[ae,yQ4,bx,ai,List.append_nil]
  |some x=>
   obtain⟨p,C⟩:=x
   rw[hx] at h1
   obtain⟨hp,hg⟩:=zl hx
   have BJ:=D9 hp
   obtain⟨rO,mo⟩:=sX BJ
   obtain⟨ot,cJ⟩:=ql hk hb (by simp) hg
   obtain⟨D,m,done,g1,g3,g4,g5,g6⟩:=qY0 hk t n C (jT l p.1) (r++[p]) ot (List.Pairwise.sublist mo hd) (by omega) (by omega) (by grind)
   refine⟨D,m,p::done,?_,.step hx g3,g4,by grind,g6.trans mo⟩
   show Ec k _ t l B.1 B.2.1 B.2.2.1 B.2.2.2 r=_
   unfold Ec
   rw[h1]
   simp[zh (show l.length<k by omega) (show qV l by show l.length≤1000;omega),lR (show r.length≤1000 by omega)]
   rw[List.append_cons r p done,←g1]
   rfl
theorem vRq {k}(hk:200≤k){B}(hb:qU B){l}(hd:qQ l)(hl:l.length≤100) t:
  ∃(C:BT) (m done:List zE),MP k B.1 B.2.1 B.2.2.1 B.2.2.2 l t=some (C.1,C.2.1,C.2.2.1,C.2.2.2,m,done)∧gd k t B l done C m∧qU C∧C.1.length=B.1.length∧List.Sublist m l:=by
 obtain⟨C,m,done,h1,h3⟩:=qY0 (show 100<k by omega) t k B l [] hb hd hl (by omega) (by grind)
 refine⟨C,m,done,?_,h3⟩
 unfold MP
 simp_all
def oO (p q:zE):Bool:=decide (q.2.1=p.2.2.1)&&(decide (q.2.2.1=p.2.1)&& !decide (p.2.1≥q.2.1))
def nG (k:Nat)(B:BT)(p:zE):List zE→Option (zE×BT)
 |[]=>none
 |q::l=>match(bif oO p q then gD k B [p,q] else none) with
  |some C=>some (q,C)
  |none=>nG k B p l
def qm (k:Nat)(B:BT)(m:List zE):List zE→Option (zE×zE×BT)
 |[]=>none
 |p::l=>match nG k B p m with
  |some (q,C)=>some (p,q,C)
  |none=>qm k B m l
theorem Uc {k B C p q}:∀{l},nG k B p l=some (q,C)→q∈l∧oO p q=true∧gD k B [p,q]=some C
 |r::l,h=>by
  unfold nG at h
  cases hd:oO p r with
  |false=>
   rw[hd] at h
   have:=Uc (l:=l) h
   simp_all
  |true=>
   rw[hd] at h
   cases hg:gD k B [p,r] with
   |some D=>
    simp_all
   |none=>
    rw[hg] at h
    have:=Uc (l:=l) h
    simp_all
theorem MQ {k B C p q m}:∀{l},qm k B m l=some (p,q,C)→p∈l∧q∈m∧oO p q=true∧gD k B [p,q]=some C
 |r::l,h=>by
  unfold qm at h
  cases hq:nG k B r m with
  |some x=>
   rw[hq] at h
   cases h
   exact⟨by simp,Uc hq⟩
  |none=>
   rw[hq] at h
   have:=MQ (l:=l) h
   simp_all
theorem yAy {α:Type}{l:List α}{i} h d:l.getD i d=l[i]:=by
 simp_all
theorem yHh k B p {m:List zE}{i}(hi:i<m.length):nG k B p (m.drop i)=match(bif oO p (m.getD i pd) then gD k B [p,m.getD i pd] else none) with
  |some C=>some (m.getD i pd,C)
  |none=>nG k B p (m.drop (i+1)):=by
 rw[List.drop_eq_getElem_cons hi,yAy hi]
 rfl
theorem yBz k B r {m:List zE}{i}(hi:i<m.length):qm k B r (m.drop i)=match nG k B (m.getD i pd) r with
  |some (q,C)=>some (m.getD i pd,q,C)
  |none=>qm k B r (m.drop (i+1)):=by
 rw[List.drop_eq_getElem_cons hi,yAy hi]
 rfl
def fa (k:Nat)(B:BT)(l:List zE)(t:Int):Option (zE×zE×BT):=qm k B (vZ l t) (vZ l t)
theorem vKs {l x q}(hx:x<l.length)(h:q∈l)(bm:q≠l.getD x pd):q∈yB l x:=by
 unfold yB
 have e:=Io l x pd hx
 grind
theorem qQ.eq_of {l}(h:qQ l){p q}(hp:p∈l)(hq:q∈l)(e:p.1=q.1):p=q:=by
 obtain⟨i,hi,ei⟩:=List.getElem_of_mem hp
 obtain⟨j,hj,ej⟩:=List.getElem_of_mem hq
 have hl:=List.pairwise_iff_getElem.1 h
 grind
theorem Ud {l p q}(hp:p∈l)(hq:q∈l)(bm:q.1≠p.1):q∈jT l p.1:=by
 obtain⟨x,hx⟩:=My hp
 unfold jT gC
 rw[hx]
 have:=jz hx
 exact vKs this.1 hq (by grind)
def zm (l:List zE)(p q:zE):List zE:=jT (jT l p.1) q.1
theorem Ed {k B C l t p q}(h:fa k B l t=some (p,q,C)):p∈l∧q∈l∧oO p q=true∧gD k B [p,q]=some C:=by
 obtain⟨h1,h2,h3⟩:=MQ h
 exact⟨D9 h1,D9 h2,h3⟩
theorem yCh {l}(hd:qQ l){p q}(hp:p∈l)(hq:q∈l)(h:oO p q=true):q.1≠p.1:=by
 intro e
 have:=hd.eq_of hq hp e
 subst this
 unfold oO at h
 simp at h
theorem Ee {l}(hd:qQ l){p q}(hp:p∈l)(hq:q∈l)(h:oO p q=true):(zm l p q).length+2=l.length∧List.Sublist (zm l p q) l:=by
 obtain⟨h1,h2⟩:=sX hp
 obtain⟨h3,h4⟩:=sX (Ud hp hq (yCh hd hp hq h))
 unfold zm
 exact⟨by omega,h4.trans h2⟩
inductive jI (k:Nat) (t:Int):BT→List zE→List zE→BT→List zE→Prop
 |stop {B:BT} {l:List zE} (h:fa k B l t=none):jI k t B l [] B l
 |step {B C D:BT} {l m done:List zE} {p q:zE} (h:fa k B l t=some (p,q,C)) (h':jI k t C (zm l p q) done D m):jI k t B l (p::q::done) D m
theorem jI.length {k t B C l done m}(h:jI k t B l done C m)(hd:qQ l):done.length+m.length=l.length∧done.length%2=0:=by
 induction h with
 |stop _=>simp
 |step h _ ih=>
  obtain⟨hp,hq,nH,_⟩:=Ed h
  obtain⟨h1,h2⟩:=Ee hd hp hq nH
  have:=ih (List.Pairwise.sublist h2 hd)
  grind
theorem jI.sub {k t B C l done m}(h:jI k t B l done C m)(hd:qQ l):List.Sublist m l:=by
 induction h with
 |stop _=>simp
 |step h _ ih=>
  obtain⟨hp,hq,nH,_⟩:=Ed h
  obtain⟨h1,h2⟩:=Ee hd hp hq nH
  exact(ih (List.Pairwise.sublist h2 hd)).trans h2
theorem yJa {k:Nat}(hk:100<k){B:BT}(h:qU B)(m:List zE)(hm:m.length≤1000)(p:zE)(dB cH:Int):∀c i n,i+c=m.length→c<n→
  IF k n dB cH m.length i B.1 B.2.1 B.2.2.1 B.2.2.2 0 0 0 0 0 0 0 0 0 0 0 0 0 0 m p.1 p.2.1 p.2.2.1 p.2.2.2.1 p.2.2.2.2.1 p.2.2.2.2.2.1 p.2.2.2.2.2.2 = some (match nG k B p (m.drop i) with
   |some (q,C)=>.inr (true,p.1,p.2.1,p.2.2.1,p.2.2.2.1,p.2.2.2.2.1,p.2.2.2.2.2.1,p.2.2.2.2.2.2,q.1,q.2.1,q.2.2.1,q.2.2.2.1,q.2.2.2.2.1,q.2.2.2.2.2.1,q.2.2.2.2.2.2,C.1,C.2.1,C.2.2.1,C.2.2.2)
   |none=>.inl (dB,cH,B.1,B.2.1,B.2.2.1,B.2.2.2,0,0,0,0,0,0,0,0,0,0,0,0,0,0,m))
 |0,i,n,e,hn=>by
  obtain⟨n,rfl⟩:∃x,n=x+1:=⟨n-1,by omega⟩
  have:i=m.length:=by omega
  subst this
  show Ef k _ dB cH m.length m.length B.1 B.2.1 B.2.2.1 B.2.2.2 0 0 0 0 0 0 0 0 0 0 0 0 0 0 m p.1 p.2.1 p.2.2.1 p.2.2.2.1 p.2.2.2.2.1 p.2.2.2.2.2.1 p.2.2.2.2.2.2=_
  unfold Ef
  simp only[qB,ab (Nat.lt_irrefl _),aj,List.drop_length]
  rfl
 |c+1,i,n,e,hn=>by
  obtain⟨n,rfl⟩:∃x,n=x+1:=⟨n-1,by omega⟩
  have hi:i<m.length:=by omega
  have ih:=yJa hk h m hm p dB cH c (i+1) n (by omega) (by omega)
  show Ef k _ dB cH m.length i B.1 B.2.1 B.2.2.1 B.2.2.2 0 0 0 0 0 0 0 0 0 0 0 0 0 0 m p.1 p.2.1 p.2.2.1 p.2.2.2.1 p.2.2.2.2.1 p.2.2.2.2.2.1 p.2.2.2.2.2.2=_
  unfold Ef
  obtain⟨r,h1,h2,h3⟩:=D8 hk h (l:=[p,m.getD i pd]) (by simp)
  have hf:=yK7 hk h (l:=[p,m.getD i pd]) (by simp)
  have df:oI k B.1 B.2.1 B.2.2.1 B.2.2.2 [(p.1,p.2.1,p.2.2.1,p.2.2.2.1,p.2.2.2.2.1,p.2.2.2.2.2.1,p.2.2.2.2.2.2),m.getD i (0,(0,(0,(0,(0,(0,0))))))]=some r:=h1
  have dP:zc k B.1 B.2.1 B.2.2.1 B.2.2.2 [(p.1,p.2.1,p.2.2.1,p.2.2.2.1,p.2.2.2.2.1,p.2.2.2.2.2.1,p.2.2.2.2.2.2),m.getD i (0,(0,(0,(0,(0,(0,0))))))]=some (sW B [p,m.getD i pd]):=hf
  simp only[qG,qK hi (show m.length<9223372036854775808 by omega),qB,aq,aa hi,ai,dP,df,ae]
  rw[yHh k B p hi]
  unfold oO
  cases decide ((m.getD i pd).2.1=p.2.2.1) with
  |false=>exact ih
  |true=>
   cases decide ((m.getD i pd).2.2.1=p.2.1) with
   |false=>exact ih
   |true=>
    cases decide (p.2.1≥(m.getD i pd).2.1) with
    |true=>exact ih
    |false=>
     unfold gD
     rw[h1]
     simp only[ay,bx,Bool.and_true,ai,aj]
     cases sW B [p,m.getD i pd] with
     |false=>
      simp only[bx,ai,Bool.and_false,aj]
      exact ih
     |true=>
      simp only[ay,aj,Bool.and_true]
      cases decide (r.2.2.2.2=0) with
      |false=>exact ih
      |true=>rfl
theorem yJr {k:Nat}(hk:100<k){B:BT}(h:qU B)(m:List zE)(hm:m.length≤1000)(IG:m.length<k):∀c i n,i+c=m.length→c<n→
  IH k n m.length i B.1 B.2.1 B.2.2.1 B.2.2.2 0 0 0 0 0 0 0 0 0 0 0 0 0 0 m = some (match qm k B m (m.drop i) with
   |some (p,q,C)=>.inr (true,p.1,p.2.1,p.2.2.1,p.2.2.2.1,p.2.2.2.2.1,p.2.2.2.2.2.1,p.2.2.2.2.2.2,q.1,q.2.1,q.2.2.1,q.2.2.2.1,q.2.2.2.2.1,q.2.2.2.2.2.1,q.2.2.2.2.2.2,C.1,C.2.1,C.2.2.1,C.2.2.2)
   |none=>.inl (0,0,0,0,0,0,0,0,0,0,0,0,0,0))
 |0,i,n,e,hn=>by
  obtain⟨n,rfl⟩:∃x,n=x+1:=⟨n-1,by omega⟩
  have:i=m.length:=by omega
  subst this
  show Eg k _ m.length m.length B.1 B.2.1 B.2.2.1 B.2.2.2 0 0 0 0 0 0 0 0 0 0 0 0 0 0 m=_
  unfold Eg
  simp only[qB,ab (Nat.lt_irrefl _),aj,List.drop_length]
  rfl
 |c+1,i,n,e,hn=>by
  obtain⟨n,rfl⟩:∃x,n=x+1:=⟨n-1,by omega⟩
  have hi:i<m.length:=by omega
  have ih:=yJr hk h m hm IG c (i+1) n (by omega) (by omega)
  show Eg k _ m.length i B.1 B.2.1 B.2.2.1 B.2.2.2 0 0 0 0 0 0 0 0 0 0 0 0 0 0 m=_
  unfold Eg
  have eO:=yJa hk h m hm (m.getD i pd) m.length i m.length 0 k (by omega) IG
  have e0:((0:Nat):Int)=0:=rfl
  rw[e0,List.drop_zero] at eO
  simp only[pd] at eO
  simp only[qG,qB,aq,aa hi,ai]
  rw[eO]
  rw[yBz k B m hi]
  simp only[pd]
  cases nG k B (m.getD i (0,(0,(0,(0,(0,(0,0))))))) m with
  |none=>
   simp only[ae,qK hi (show m.length<9223372036854775808 by omega)]
   exact ih
  |some x=>rfl
def Ue (x:Option (zE×zE×BT)):Int×Int×Int×Int×Int×Int×Int×Int×Int×Int×Int×Int×Int×Int×(List (Int×Int×Int))×EQ×AC×EQ×Bool:=match x with
 |some (p,q,C)=>(p.1,p.2.1,p.2.2.1,p.2.2.2.1,p.2.2.2.2.1,p.2.2.2.2.2.1,p.2.2.2.2.2.2,q.1,q.2.1,q.2.2.1,q.2.2.2.1,q.2.2.2.2.1,q.2.2.2.2.2.1,q.2.2.2.2.2.2,C.1,C.2.1,C.2.2.1,C.2.2.2,true)
 |none=>(0,0,0,0,0,0,0,0,0,0,0,0,0,0,[],[],[],[],false)
theorem vVb {k:Nat}(hk:100<k){B:BT}(h:qU B){l:List zE}(bI:l.length<k)(hl:qV l)(hd:qQ l)(t:Int):MR k B.1 B.2.1 B.2.2.1 B.2.2.2 l t=some (Ue (fa k B l t)):=by
 unfold MR fa
 rw[yF6 bI hl hd]
 have Eb:=MN l t
 unfold qV at hl
 have:=yJr hk h (vZ l t) (by omega) (by omega) (vZ l t).length 0 k (by omega) (by omega)
 have e:((0:Nat):Int)=0:=rfl
 rw[e,List.drop_zero] at this
 simp only[ae]
 rw[this]
 cases qm k B (vZ l t) (vZ l t) with
 |none=>rfl
 |some x=>rfl
theorem Uf {k:Nat}(hk:3≤k)(t:Int)(l:List zE)(hl:l.length≤1000)(su:l.length<k)(C:BT)(r:List zE)(hr:r.length≤900)(p q:zE):
  sY k k t l 2 0 C.1 C.2.1 C.2.2.1 C.2.2.2 r [p,q]=some (t,zm l p q,C.1,C.2.1,C.2.2.1,C.2.2.2,r++[p,q]):=by
 obtain⟨n,rfl⟩:∃n,k=n+3:=⟨k-3,by omega⟩
 have h1:=zh su (show qV l from hl) p.1
 have rO:(jT l p.1).length≤l.length:=by
  unfold jT gC
  cases hp:vN l p.1 with
  |none=>exact Nat.le_refl _
  |some x=>exact List.Sublist.length_le (sR l x)
 have h2:=zh (k:=n+3) (l:=jT l p.1) (by omega) (show(jT l p.1).length≤1000 by omega) q.1
 have e1:zO (r.length+1) 56=true:=lR (by omega)
 have e2:zO ((r++[p]).length+1) 56=true:=lR (by rw[List.length_append];simp;omega)
 show uZ (n+3) (sY (n+3) (n+2)) t l 2 0 C.1 C.2.1 C.2.2.1 C.2.2.2 r [p,q]=_
 unfold uZ
 have g0:[p,q].getD (Int.toNat 0) (0,(0,(0,(0,(0,(0,0))))))=p:=rfl
 have b0:zC 0 [p,q].length=true:=rfl
 have d0:decide ((0:Int)<2)=true:=rfl
 have w0:zA (0+1)=1:=by decide
 rw[d0,b0,g0,h1]
 simp only[ai,ae,e1,w0]
 show uZ (n+3) (sY (n+3) (n+1)) t (jT l p.1) 2 1 C.1 C.2.1 C.2.2.1 C.2.2.2 (r++[p]) [p,q]=_
 unfold uZ
 have g1:[p,q].getD (Int.toNat 1) (0,(0,(0,(0,(0,(0,0))))))=q:=rfl
 have b1:zC 1 [p,q].length=true:=rfl
 have d1:decide ((1:Int)<2)=true:=rfl
 have w1:zA (1+1)=2:=by decide
 rw[d1,b1,g1,h2]
 simp only[ai,ae,e2,w1]
 show uZ (n+3) (sY (n+3) n) t (zm l p q) 2 2 C.1 C.2.1 C.2.2.1 C.2.2.2 (r++[p]++[q]) [p,q]=_
 unfold uZ
 have d2:decide ((2:Int)<2)=false:=rfl
 rw[d2,List.append_assoc]
 rfl
theorem yGj {k:Nat}(hk:100<k)(t:Int):∀(n:Nat) (B:BT) (l r:List zE),qU B→qQ l→l.length≤100→l.length<n→r.length+l.length≤900→
  ∃(C:BT) (m done:List zE),II k n t l B.1 B.2.1 B.2.2.1 B.2.2.2 r=some (m,C.1,C.2.1,C.2.2.1,C.2.2.2,r++done)∧jI k t B l done C m∧qU C∧C.1.length=B.1.length∧List.Sublist m l
 |0,_,_,_,_,_,_,h,_=>absurd h (Nat.not_lt_zero _)
 |n+1,B,l,r,hb,hd,hl,hn,hr=>by
  have h1:=vVb hk hb (l:=l) (by omega) (by show l.length≤1000;omega) hd t
  cases hx:fa k B l t with
  |none=>
   rw[hx] at h1
   refine⟨B,l,[],?_,.stop hx,hb,rfl,List.Sublist.refl _⟩
   show Eh k _ t l B.1 B.2.1 B.2.2.1 B.2.2.2 r=_
   unfold Eh
   rw[h1]
   simp only[ae,Ue,bx,ai,List.append_nil]
  |some x=>
   obtain⟨p,q,C⟩:=x
   rw[hx] at h1
   obtain⟨hp,hq,nH,hg⟩:=Ed hx
   obtain⟨rO,mo⟩:=Ee hd hp hq nH
   obtain⟨ot,cJ⟩:=ql hk hb (by simp) hg
   obtain⟨D,m,done,g1,g3,g4,g5,g6⟩:=yGj hk t n C (zm l p q) (r++[p,q]) ot (List.Pairwise.sublist mo hd) (by omega) (by omega) (by rw[List.length_append];simp;omega)
   have e2:r++[p,q]++done=r++p::q::done:=by rw[List.append_assoc];rfl
   refine⟨D,m,p::q::done,?_,.step hx g3,g4,g5.trans cJ,g6.trans mo⟩
   show Eh k _ t l B.1 B.2.1 B.2.2.1 B.2.2.2 r=_
   unfold Eh
   rw[h1]
   have hL:=Uf (k:=k) (by omega) t l (by omega) (by omega) C r (by omega) p q
   simp only[ae,Ue,ay,aj]
   have hL':sY k k t l 2 0 C.1 C.2.1 C.2.2.1 C.2.2.2 r [(p.1,p.2.1,p.2.2.1,p.2.2.2.1,p.2.2.2.2.1,p.2.2.2.2.2.1,p.2.2.2.2.2.2),(q.1,q.2.1,q.2.2.1,q.2.2.2.1,q.2.2.2.2.1,q.2.2.2.2.2.1,q.2.2.2.2.2.2)]=_:=hL
   rw[hL']
   simp only[ae]
   rw[g1,e2]
theorem vQw {k:Nat}(hk:200≤k){B:BT}(hb:qU B){l:List zE}(hd:qQ l)(hl:l.length≤100)(t:Int):
  ∃(C:BT) (m done:List zE),MS k B.1 B.2.1 B.2.2.1 B.2.2.2 l t=some (C.1,C.2.1,C.2.2.1,C.2.2.2,m,done)∧jI k t B l done C m∧qU C∧C.1.length=B.1.length∧List.Sublist m l:=by
 obtain⟨C,m,done,h1,h3⟩:=yGj (show 100<k by omega) t k B l [] hb hd hl (by omega) (by simp;omega)
 refine⟨C,m,done,?_,h3⟩
 unfold MS
 rw[h1]
 rfl
def jK (l:List zE)(f:Int):Nat:=(l.filter (wH f)).length
def qn (l:List zE)(many:AC)(i:Nat):Bool:=
 (decide ((l.getD i pd).2.1≥0)&&decide ((l.getD i pd).2.1<(many.length:Int)))&&decide (((jK (l.take i) (l.getD i pd).2.1:Nat):Int)<many.getD (l.getD i pd).2.1.toNat 0)
def lU (l:List zE)(many:AC):Nat→List zE
 |0=>[]
 |i+1=>lU l many i++(bif qn l many i then[l.getD i pd] else[])
def vA (l:List zE)(many:AC):List zE:=lU l many l.length
theorem yW3 l many:∀N,N≤l.length→List.Sublist (lU l many N) (l.take N)
 |0,_=>by simp[lU]
 |N+1,h=>by
  rw[←fL l N pd h]
  apply List.Sublist.append (yW3 l many N (by omega))
  grind
theorem u9 l many:List.Sublist (vA l many) l:=by
 have:=yW3 l many l.length (by simp)
 rwa [List.take_length] at this
def sZ (v w:AC):Prop:=v.length=w.length∧∀i,i<w.length→v.getD i 0≤w.getD i 0
def jR (B:BT)(l:List zE):AC:=sP B.1 B.2.1 B.2.2.1 B.2.2.2 l
def jX (s:AC)(m:AC):AC:=s.foldl (fun m i=>m.set i.toNat (m.getD i.toNat 0-1)) m
theorem ta:∀s m,(jX s m).length=m.length
 |[],_=>rfl
 |i::s,m=>by
  show(jX s (m.set i.toNat (m.getD i.toNat 0-1))).length=_
  rw[ta s,List.length_set]
theorem ySn:∀(s:List Nat) m,s.Nodup→(∀i∈s,i<m.length)→∀j,(jX (s.map fun(x:Nat)=>(x:Int)) m).getD j 0=m.getD j 0-(if j∈s then 1 else 0)
 |[],m,_,_,j=>by simp[jX]
 |i::s,m,hs,hi,j=>by
  show(jX (s.map fun(x:Nat)=>(x:Int)) (m.set ((i:Int)).toNat (m.getD ((i:Int)).toNat 0-1))).getD j 0=_
  rw[aq,ySn s _ (by grind) (by grind),jM]
  grind
def tc (B:BT)(l:List zE)(i:Nat):Bool:=wX B.1 B.2.1 B.2.2.1 B.2.2.2 l i
theorem yXw B l {m}(hm:m.length=B.1.length) j:(jX (jR B l) m).getD j 0=m.getD j 0-(if j<B.1.length∧tc B l j=true then 1 else 0):=by
 have:=ySn ((List.range B.1.length).filter fun i=>tc B l i) m (List.Nodup.sublist List.filter_sublist (by grind)) (by grind) j
 unfold jR sP
 rw[show(fun i=>wX B.1 B.2.1 B.2.2.1 B.2.2.2 l i)=fun i=>tc B l i from rfl,this]
 simp
theorem vK9 {B l}:jR B l=[]↔∀j,j<B.1.length→tc B l j=false:=by
 unfold jR sP
 rw[List.map_eq_nil_iff,List.filter_eq_nil_iff]
 constructor
 ·intro h j hj
  have:=h j (by grind)
  simpa[tc] using this
 ·intro h i hi
  have:=h i (by grind)
  simpa[tc] using this
theorem yPr {l many p}:∀{N},p∈lU l many N→∃i,i<N∧l.getD i pd=p∧qn l many i=true
 |N+1,h=>by
  unfold lU at h
  rw[List.mem_append] at h
  rcases h with h|h
  ·obtain⟨i,h1,h2⟩:=yPr h
   grind
  grind
theorem vYs {B l}(hl:∀q∈l,yG B.1.length q){m j}(h:tc B (vA l m) j=true):1≤m.getD j 0:=by
 unfold tc wX at h
 rw[aR,Bool.not_eq_true'] at h
 have hn:=qY9 (n:=B.1.length) (l:=vA l m) (fun q hq=>hl q ((u9 l m).subset hq)) j
 rw[h.1] at hn
 obtain⟨x,hx,he⟩:=Mq.1 hn
 obtain⟨i,h1,h2,h3⟩:=yPr (jV (d:=pd) hx)
 unfold qn at h3
 have Mi:(l.getD i pd)=(vA l m).getD x pd:=h2
 grind
inductive j3 (B:BT) (l:List zE):AC→AC→Nat→Prop
 |stop {m:AC} (h:jR B (vA l m)=[]):j3 B l m m 0
 |step {m f:AC} {n:Nat} (h:jR B (vA l m)≠[]) (h':j3 B l (jX (jR B (vA l m)) m) f n):j3 B l m f (n+1)
theorem vIo {B l m}(hm:m.length=B.1.length):sZ (jX (jR B l) m) m:=by
 refine⟨ta _ _,fun i hi=>?_⟩
 rw[yXw B l hm]
 omega
theorem sZ.trans {u v w}(h:sZ u v)(h':sZ v w):sZ u w:=⟨h.1.trans h'.1,fun i hi=>Int.le_trans (h.2 i (by have:=h'.1;omega)) (h'.2 i hi)⟩
theorem sZ.refl v:sZ v v:=⟨rfl,by simp⟩
theorem j3.le {B l m f n}(h:j3 B l m f n)(hm:m.length=B.1.length):sZ f m:=by
 induction h with
 |stop _=>exact sZ.refl _
 |step _ _ ih=>exact(ih ((ta _ _).trans hm)).trans (vIo hm)
theorem j3.final {B l m f n}(h:j3 B l m f n):jR B (vA l f)=[]:=by
 induction h with
 |stop h=>exact h
 |step _ _ ih=>exact ih
def nI (m:AC):Prop:=∀i,0≤m.getD i 0
theorem MU {B l}(hl:∀q∈l,yG B.1.length q){m}(hm:m.length=B.1.length)(h0:nI m):nI (jX (jR B (vA l m)) m):=by
 intro i
 rw[yXw B _ hm]
 have:=h0 i
 split
 ·rename_i c
  have:=vYs hl c.2
  omega
 ·omega
theorem j3.nonneg {B l}(hl:∀q∈l,yG B.1.length q){m f n}(h:j3 B l m f n)(hm:m.length=B.1.length)(h0:nI m):nI f:=by
 induction h with
 |stop _=>exact h0
 |step _ _ ih=>exact ih ((ta _ _).trans hm) (MU hl hm h0)
def lV (m:AC):Int:=zP (fun x=>x) m
theorem yIs:∀m i x,i<m.length→lV (m.set i x)=lV m-m.getD i 0+x
 |y::m,0,x,_=>by
  show x+lV m=y+lV m-y+x
  omega
 |y::m,i+1,x,h=>by
  show y+lV (m.set i x)=y+lV m-m.getD i 0+x
  rw[yIs m i x (by simp_all)]
  omega
theorem yQi:∀s m,(∀i∈s,0≤i∧i<(m.length:Int))→lV (jX s m)=lV m-s.length
 |[],m,_=>by simp[jX]
 |i::s,m,h=>by
  have hi:=h i (by simp)
  show lV (jX s (m.set i.toNat (m.getD i.toNat 0-1)))=_
  rw[yQi s _ (by grind),yIs _ _ _ (by omega)]
  grind
theorem Ug {B l}:∀i∈jR B l,0≤i∧i<(B.1.length:Int):=by
 intro i hi
 obtain⟨x,hx,rfl⟩:=List.mem_map.1 hi
 simp_all
theorem yGu:∀{m},nI m→0≤lV m
 |[],_=>Int.le_refl 0
 |x::m,h=>by
  have h1:0≤x:=h 0
  have h2:=yGu (m:=m) (fun i=>h (i+1))
  show 0≤x+lV m
  omega
theorem yOy {B l}(hl:∀q∈l,yG B.1.length q):∀(N:Nat) m,m.length=B.1.length→nI m→lV m≤N→∃f n,j3 B l m f n∧n≤N
 |N,m,hm,h0,hN=>by
  by_cases c:jR B (vA l m)=[]
  ·exact⟨m,0,.stop c,by simp⟩
  ·have ht:=yQi (jR B (vA l m)) m (by rw[hm];exact Ug)
   have hp:0<(jR B (vA l m)).length:=by grind
   have h1:=MU hl hm h0
   have h2:=yGu h1
   obtain⟨N,rfl⟩:∃x,N=x+1:=⟨N-1,by omega⟩
   obtain⟨f,n,h3,h4⟩:=yOy hl N _ ((ta _ _).trans hm) h1 (by omega)
   exact⟨f,n+1,.step c h3,by omega⟩
theorem Uh l many:∀N,(lU l many N).length≤N
 |0=>Nat.le_refl _
 |N+1=>by
  unfold lU
  have:=Uh l many N
  grind
theorem vHe (l:List zE) i (hi:i<l.length) f:jK (l.take (i+1)) f=jK (l.take i) f+(if(l.getD i pd).2.1=f then 1 else 0):=by
 unfold jK
 rw[zd _ _ _ pd hi,List.length_append]
 unfold wH
 grind
def gf (l:List zE)(n:Nat):AC:=(List.range n).map fun(i:Nat)=>((jK l i:Nat):Int)
theorem yA4 l i:gf l (i+1)=gf l i++[((jK l i:Nat):Int)]:=by
 unfold gf
 rw[List.range_succ,List.map_append];rfl
theorem vd l n:(gf l n).length=n:=by
 unfold gf;simp
theorem IJ:∀s m i,m.getD i 0-s.length≤(jX s m).getD i 0∧(jX s m).getD i 0≤m.getD i 0
 |[],m,i=>by simp[jX]
 |x::s,m,i=>by
  have h:=IJ s (m.set x.toNat (m.getD x.toNat 0-1)) i
  rw[jM] at h
  have e:jX (x::s) m=jX s (m.set x.toNat (m.getD x.toNat 0-1)):=rfl
  rw[e,List.length_cons]
  by_cases c:x.toNat=i∧x.toNat<m.length
  ·grind
  omega
theorem yGc (s m:AC) i (hi:i<s.length):jX (s.take (i+1)) m=(jX (s.take i) m).set (s.getD i 0).toNat ((jX (s.take i) m).getD (s.getD i 0).toNat 0-1):=by
 unfold jX
 rw[←fL s i 0 hi,List.foldl_append]
 rfl
theorem yL6 g:∀n,zP (fun x=>x) ((List.range n).map g)=qJ g n
 |0=>rfl
 |n+1=>by
  rw[List.range_succ,List.map_append,la,yL6 g n]
  show qJ g n+(g n+0)=qJ g n+g n
  omega
theorem vNr l f:((jK l f:Nat):Int)=zP (fun p:zE=>if p.2.1=f then 1 else 0) l:=by
 induction l with
 |nil=>rfl
 |cons p l ih=>
  unfold jK wH at*
  show _=(if p.2.1=f then(1:Int) else 0)+zP _ l
  grind
theorem vIn l n:lV (gf l n)≤l.length:=by
 unfold lV gf
 rw[yL6 (fun i:Nat=>((jK l i:Nat):Int)) n,oB (h:=fun j=>zP (fun p:zE=>if p.2.1=(j:Int) then 1 else 0) l) (fun j _=>vNr l j),LA]
 have := (Ch (A := 1) (l := l) (g := fun p : zE => qJ (fun j => if p.2.1 = (j : Int) then 1 else 0) n) (fun p _=>by
  by_cases c:0≤p.2.1
  ·obtain⟨f,hf⟩:∃f:Nat,p.2.1=f:=⟨p.2.1.toNat,by omega⟩
   have e:qJ (fun j=>if p.2.1=(j:Int) then(1:Int) else 0) n=qJ (fun j=>if j=f then 1 else 0) n:=by grind
   rw[e,yi]
   omega
  ·have e:qJ (fun j=>if p.2.1=(j:Int) then(1:Int) else 0) n=qJ (fun _=>0) n:=by grind
   rw[e,S1]
   omega)).2
 omega
theorem yGy l n i:(gf l n).getD i 0=if i<n then((jK l i:Nat):Int) else 0:=by
 unfold gf
 grind
theorem Ui l f:jK l f≤l.length:=List.length_filter_le _ _
theorem MV {l}(hl:l.length≤1000) n:nI (gf l n)∧∀i,(gf l n).getD i 0≤1000:=by
 refine⟨fun i=>?_,fun i=>?_⟩
 ·rw[yGy];omega
 ·rw[yGy]
  have:=Ui l i
  omega
theorem IK {B:BT}{l}(hl:∀q∈l,yG B.1.length q)(bU:l.length≤64) m:vW B.1.length (vA l m):=
 ⟨fun p hp=>hl p ((u9 l m).subset hp),by have:=(u9 l m).length_le;omega⟩
def yU (l:List zE)(t:Int):List zE:=l.filter (iO t)
theorem IL {n l t}(h:∀q∈l,yG n q):∀q∈yU l t,yG n q:=fun q hq=>h q (List.mem_filter.1 hq).1
theorem vf l t:(yU l t).length≤l.length:=List.length_filter_le _ _
theorem Uj {B}(hb:qU B){l}(hl:∀q∈l,yG B.1.length q)(bU:l.length≤64) t:
  ∃f n,j3 B (yU l t) (gf (yU l t) B.1.length) f n∧n≤(yU l t).length:=by
 have h1:=MV (l:=yU l t) (by have:=vf l t;omega) B.1.length
 have h2:=vIn (yU l t) B.1.length
 exact yOy (IL hl) (yU l t).length _ (vd _ _) h1.1 (by omega)
def nJ (l:List zE)(hs:List zE):List zE:=hs.foldl (fun l p=>jT l p.1) l
theorem vH1 l id:(jT l id).length≤l.length∧List.Sublist (jT l id) l:=by
 unfold jT gC
 cases vN l id with
 |none=>simp
 |some x=>exact⟨(sR l x).length_le,sR l x⟩
theorem MW:∀hs l,(nJ l hs).length≤l.length∧List.Sublist (nJ l hs) l
 |[],l=>⟨Nat.le_refl _,List.Sublist.refl _⟩
 |p::hs,l=>by
  obtain⟨h1,h2⟩:=MW hs (jT l p.1)
  obtain⟨h3,h4⟩:=vH1 l p.1
  exact⟨Nat.le_trans h1 h3,h2.trans h4⟩
theorem qZ4 (l hs:List zE) i (hi:i<hs.length):nJ l (hs.take (i+1))=jT (nJ l (hs.take i)) (hs.getD i pd).1:=by
 unfold nJ
 rw[←fL hs i pd hi,List.foldl_append]
 rfl
def Ei (B:BT)(l hs:List zE)(r:List qO×EQ×AC×EQ×Int):(List (Int×Int×Int))×EQ×AC×EQ×(List zE)×(List zE):=
 bif !(decide (r.2.2.2.2=0)) then(B.1,B.2.1,B.2.2.1,B.2.2.2,l,[]) else(r.1,r.2.1,r.2.2.1,r.2.2.2.1,nJ l hs,hs)
theorem Uk {k:Nat}{l:List zE}(hk:l.length<k)(hl:qV l){many:AC}(h0:nI many)(hm:∀i,many.getD i 0≤1000)(Eb:many.length≤1000):Ej k l many=some (vA l many):=by
 unfold qV at hl
 unfold Ej Ul Um
 rw[qT (by omega) (by omega)]
 simp only[ai,ae]
 obtain ⟨s', h1, h2, h3, h4⟩ := vC (L := fun n i (s : AC × List zE) => Ek k n l l.length i s.1 s.2) (N := l.length) (fun s => s) (fun i s => s.1.length = many.length ∧ (∀ f : Nat, f < many.length → s.1.getD f 0 = if many.getD f 0 ≤ (jK (l.take i) f : Nat) then 0 else many.getD f 0 - (jK (l.take i) f : Nat)) ∧ s.2 = lU l many i) (fun n s _=>by
  show El k _ l l.length l.length s.1 s.2=_
  unfold El
  simp only [qB, ab (Nat.lt_irrefl _), aj]) (fun n i s hi hs=>by
  obtain⟨s1,s2,s3⟩:=hs
  have eF:s.2.length≤i:=by rw[s3];exact Uh l many i
  show∃s',El k _ l l.length i s.1 s.2=_∧_
  unfold El Un
  simp only[qG,qK hi (show l.length<9223372036854775808 by omega),qB,aq,aa hi,ai,lR (show s.2.length≤1000 by omega)]
  have mz:=fun f=>vHe l i hi f
  have G0:∀f:Nat,f<many.length→(l.getD i pd).2.1≠(f:Int)→(if many.getD f 0≤(jK (l.take (i+1)) f:Nat) then(0:Int) else many.getD f 0-(jK (l.take (i+1)) f:Nat))=if many.getD f 0≤(jK (l.take i) f:Nat) then 0 else many.getD f 0-(jK (l.take i) f:Nat):=by
   intro f hf bm
   rw[mz f,if_neg bm,Nat.add_zero]
  have skip:qn l many i=false→(∀f:Nat,f<many.length→(l.getD i pd).2.1=(f:Int)→many.getD f 0≤(jK (l.take i) f:Nat))→(s.1.length=many.length∧(∀f:Nat,f<many.length→s.1.getD f 0=if many.getD f 0≤(jK (l.take (i+1)) f:Nat) then 0 else many.getD f 0-(jK (l.take (i+1)) f:Nat))∧s.2=lU l many (i+1)):=by
   intro hh hz
   refine⟨s1,fun f hf=>?_,?_⟩
   ·by_cases c:(l.getD i pd).2.1=(f:Int)
    ·have:=hz f hf c
     rw[s2 f hf,if_pos this,mz f,if_pos c,if_pos (by omega)]
    ·rw[G0 f hf c,s2 f hf]
   ·show _=lU l many i++_
    rw[hh,s3];simp
  cases e1:decide ((l.getD i pd).2.1<0) with
  |true=>
   refine⟨s,rfl,skip ?_ ?_⟩
   ·unfold qn
    rw[aN] at e1
    rw[ab (show¬(l.getD i pd).2.1≥0 by omega)];rfl
   ·intro f hf c
    rw[aN] at e1
    omega
  |false=>
   cases e2:decide ((l.getD i pd).2.1≥((s.1.length:Nat):Int)) with
   |true=>
    refine⟨s,rfl,skip ?_ ?_⟩
    ·unfold qn
     rw[aN] at e2
     rw[ab (show¬(l.getD i pd).2.1<(many.length:Int) by omega),Bool.and_false];rfl
    ·intro f hf c
     rw[aN] at e2
     omega
   |false=>
    rw[decide_eq_false_iff_not] at e1 e2
    obtain⟨f,hf⟩:∃f:Nat,(l.getD i pd).2.1=f:=⟨(l.getD i pd).2.1.toNat,by omega⟩
    have KN:f<many.length:=by omega
    have dP:(l.getD i (0,(0,(0,(0,(0,(0,0))))))).2.1=f:=hf
    simp only[aj,dP,qG,aq,s1,aa KN,ai]
    have xG:qn l many i=decide (((jK (l.take i) f:Nat):Int)<many.getD f 0):=by
     unfold qn
     rw[hf,aa (show(f:Int)≥0 by omega),aa (show(f:Int)<(many.length:Int) by omega),aq]
     rfl
    have lf:=s2 f KN
    cases e3:decide (s.1.getD f 0<1) with
    |true=>
     rw[aN,lf] at e3
     have hle:many.getD f 0≤(jK (l.take i) f:Nat):=by
      by_cases c:many.getD f 0≤(jK (l.take i) f:Nat)
      ·exact c
      ·rw[if_neg c] at e3;omega
     refine⟨s,rfl,skip (by rw[xG];exact ab (by omega)) ?_⟩
     intro g hg c
     have:g=f:=by omega
     subst this
     exact hle
    |false=>
     rw[decide_eq_false_iff_not] at e3
     have hgt:¬many.getD f 0≤(jK (l.take i) f:Nat):=by
      intro c
      rw[lf,if_pos c] at e3
      omega
     rw[if_neg hgt] at lf
     have uD:=hm f
     have hw:zA (s.1.getD f 0-1)=s.1.getD f 0-1:=zQ (by omega) (by omega)
     refine⟨(s.1.set f (s.1.getD f 0-1),s.2++[l.getD i pd]),?_,?_,?_,?_⟩
     ·simp only[aj,ae,ai,hw]
     ·rw[List.length_set];exact s1
     ·intro g hg
      rw[jM]
      by_cases c:f=g
      ·subst c
       rw[if_pos ⟨rfl,by omega⟩,mz f,if_pos hf,lf]
       by_cases d:many.getD f 0≤((jK (l.take i) f+1:Nat):Int)
       ·rw[if_pos d];omega
       ·rw[if_neg d];omega
      ·rw[if_neg (fun e=>c e.1),G0 g hg (by omega)]
       exact s2 g hg
     ·show s.2++[l.getD i pd]=lU l many i++_
      rw[xG,aa (by omega),s3];rfl) (s:=(many,[])) hk ⟨rfl,fun f hf=>by
   have:(jK (l.take 0) f:Nat)=0:=rfl
   have h0f:=h0 f
   rw[this]
   by_cases c:many.getD f 0≤((0:Nat):Int)
   ·rw[if_pos c]
    show many.getD f 0=0
    omega
   ·rw[if_neg c]
    show many.getD f 0=_
    omega,rfl⟩
 have df:Ek k k l l.length 0 many []=some s':=h1
 rw[df]
 simp only[ae,h4]
 rfl
theorem vAv {k:Nat}{l:List zE}(hk:l.length<k)(hl:qV l)(f:Int):IM k l f=some (l.filter (wH f)):=by
 unfold IM Uo
 have := Ih pd (L := fun n i s => IN k n l l.length i f s) (wH f) id (fun n s=>by
  show Em k _ l l.length l.length f s=_
  unfold Em
  simp only [qB, ab (Nat.lt_irrefl _), aj]; rfl) (fun n i s hi hs=>by
  show Em k _ l l.length i f s=_
  unfold Em Uq
  unfold qV at hl
  simp only[qG,qK hi (show l.length<9223372036854775808 by omega),qB,aq,aa hi,ai,lR (show s.length≤1000 by omega)]
  unfold wH
  cases h1:decide ((l.getD i pd).2.1=f)<;>rfl) hk
 rw[this]
 rfl
theorem vXs {k:Nat}{B:BT}{l:List zE}(hk:l.length<k)(hl:qV l)(hn:B.1.length<k)(hn':B.1.length≤1000)(s7:Int):
  zn k k s7 B.1.length 0 B.1 B.2.1 B.2.2.1 B.2.2.2 [] l=some (s7,B.1,B.2.1,B.2.2.1,B.2.2.2,gf l B.1.length,l):=by
 obtain ⟨s', h1, h2⟩ := vC (L := fun n i (s : AC) => zn k n s7 B.1.length i B.1 B.2.1 B.2.2.1 B.2.2.2 s l) (N := B.1.length) (fun s => (s7, B.1, B.2.1, B.2.2.1, B.2.2.2, s, l)) (fun i s => s = gf l i) (fun n s _=>by
  show En k _ s7 B.1.length B.1.length B.1 B.2.1 B.2.2.1 B.2.2.2 s l=_
  unfold En
  simp only [qB, ab (Nat.lt_irrefl _), aj]) (fun n i s hi hs=>by
  refine⟨_,?_,(yA4 l i).symm⟩
  show En k _ s7 B.1.length i B.1 B.2.1 B.2.2.1 B.2.2.2 s l=_
  unfold En
  have hr:zO (s.length+1) 8=true:=by rw[hs,vd];exact qT (by omega) (by omega)
  simp only[qB,aa hi,ai,vAv hk hl,ae,hr,qK hi (show B.1.length<9223372036854775808 by omega)]
  rw[hs]
  rfl) (s:=[]) hn rfl
 exact h1.trans (by rw[h2])
theorem vRg {k:Nat}{B:BT}{l:List zE}{s m:AC}(hk:s.length<k)(hs:s.length≤1000)(eO:∀x∈s,0≤x∧x<(m.length:Int))(h0:nI m)(hm:∀i,m.getD i 0≤1000)(s7:Int):
  Eo k k s7 s.length 0 B.1 B.2.1 B.2.2.1 B.2.2.2 m l s=some (s7,B.1,B.2.1,B.2.2.1,B.2.2.2,jX s m,l):=by
 obtain ⟨s', h1, h2⟩ := vC (L := fun n i (r : AC) => Eo k n s7 s.length i B.1 B.2.1 B.2.2.1 B.2.2.2 r l s) (N := s.length) (fun r => (s7, B.1, B.2.1, B.2.2.1, B.2.2.2, r, l)) (fun i r => r = jX (s.take i) m) (fun n r _=>by
  show Ep k _ s7 s.length s.length B.1 B.2.1 B.2.2.1 B.2.2.2 r l s=_
  unfold Ep
  simp only [qB, ab (Nat.lt_irrefl _), aj]) (fun n i r hi hr=>by
  refine⟨_,?_,(yGc s m i hi).symm⟩
  show Ep k _ s7 s.length i B.1 B.2.1 B.2.2.1 B.2.2.2 r l s=_
  unfold Ep
  obtain⟨b1,b2⟩:=eO _ (jV (d:=0) hi)
  have ua:r.length=m.length:=by rw[hr,ta]
  have hb:zC (s.getD i 0) r.length=true:=iM b1 (by omega)
  have SY:=IJ (s.take i) m (s.getD i 0).toNat
  have GS:=h0 (s.getD i 0).toNat
  have uD:=hm (s.getD i 0).toNat
  have bg:(s.take i).length≤s.length:=List.length_take_le' _ _
  have hw:zA (r.getD (s.getD i 0).toNat 0-1)=r.getD (s.getD i 0).toNat 0-1:=by
   rw[hr]
   exact zQ (by omega) (by omega)
  simp only[qB,qG,aq,aa hi,ai,hb,hw,qK hi (show s.length<9223372036854775808 by omega)]
  rw[hr]) (s:=m) hk rfl
 have:=h1.trans (by rw[h2,List.take_length])
 exact this
theorem Ur {k:Nat}(hk:100<k){B:BT}(hb:qU B){l:List zE}(hl:∀q∈l,yG B.1.length q)(bU:l.length≤64){m f:AC}{n:Nat}(h:j3 B l m f n):
  ∀(N:Nat) (s7:Int),m.length=B.1.length→nI m→(∀i,m.getD i 0≤1000)→n<N→0≤s7→s7+n<1000000→
  IP k N s7 B.1 B.2.1 B.2.2.1 B.2.2.2 m l=some (s7+n+1,f):=by
 induction h with
 |@stop m h=>
  intro N s7 hm h0 h1 hn hs ue
  obtain⟨N,rfl⟩:∃x,N=x+1:=⟨N-1,by omega⟩
  have gW:=hb.n6
  show Er k _ s7 B.1 B.2.1 B.2.2.1 B.2.2.2 m l=_
  unfold Er
  have hS:=TK hk hb (IK hl bU m)
  have ng:zb k B.1 B.2.1 B.2.2.1 B.2.2.2 (vA l m)=some (jR B (vA l m)):=hS
  rw[Uk (by omega) (show qV l by show l.length≤1000;omega) h0 h1 (by omega)]
  simp only[ae]
  rw[ng,h]
  simp only[ae]
  have w:zA (s7+1)=s7+1:=zQ (by omega) (by omega)
  rw[w]
  simp
 |@step m f n h h' ih=>
  intro N s7 hm h0 h1 hn hs ue
  obtain⟨N,rfl⟩:∃x,N=x+1:=⟨N-1,by omega⟩
  have gW:=hb.n6
  show Er k _ s7 B.1 B.2.1 B.2.2.1 B.2.2.2 m l=_
  unfold Er
  have hS:=TK hk hb (IK hl bU m)
  have ng:zb k B.1 B.2.1 B.2.2.1 B.2.2.2 (vA l m)=some (jR B (vA l m)):=hS
  rw[Uk (by omega) (show qV l by show l.length≤1000;omega) h0 h1 (by omega)]
  simp only[ae]
  rw[ng]
  simp only[ae]
  have w:zA (s7+1)=s7+1:=zQ (by omega) (by omega)
  have bm : decide ((((jR B (vA l m)).length : Nat) : Int) = 0) = false := ab (by
   have:=List.length_pos_iff.2 h
   omega)
  have eF:(jR B (vA l m)).length≤B.1.length:=by
   unfold jR sP
   rw[List.length_map]
   have:=List.length_filter_le (fun i=>wX B.1 B.2.1 B.2.2.1 B.2.2.2 (vA l m) i) (List.range B.1.length)
   rwa [List.length_range] at this
  rw[bm,w]
  simp only[aj]
  rw[vRg (by omega) (by omega) (by rw[hm];exact Ug) h0 h1]
  simp only[ae]
  have Us:=MU hl hm h0
  have:=ih N (s7+1) ((ta _ _).trans hm) Us (fun i=>by have:=(IJ (jR B (vA l m)) m i).2;have:=h1 i;omega) (by omega) (by omega) (by omega)
  rw[this]
  congr 2
  omega
theorem vLr {k:Nat}(hk:100<k){B:BT}(hb:qU B){l:List zE}(hl:∀q∈l,yG B.1.length q)(bU:l.length≤64)(t:Int){f:AC}{n:Nat}(hn:n≤l.length)(h:j3 B (yU l t) (gf (yU l t) B.1.length) f n):
  MX k B.1 B.2.1 B.2.2.1 B.2.2.2 l t=some (f,((n+1:Nat):Int)):=by
 have gW:=hb.n6
 have hr:=vf l t
 have h1:=MV (l:=yU l t) (by omega) B.1.length
 unfold MX
 rw[TN (by omega) (by show l.length≤1000;omega)]
 simp only[ae]
 have e:zn k k 0 B.1.length 0 B.1 B.2.1 B.2.2.1 B.2.2.2 [] (l.filter (iO t))=_:=vXs (k:=k) (B:=B) (l:=yU l t) (by omega) (by show(yU l t).length≤1000;omega) (by omega) (by omega) 0
 rw[e]
 simp only[ae]
 rw[Ur hk hb (IL hl) (by omega) h k 0 (vd _ _) h1.1 h1.2 (by omega) (by omega) (by omega)]
 simp
theorem vUr {k:Nat}{C:BT}{l hs:List zE}(hl:l.length<k)(dG:l.length≤1000)(hk:hs.length<k)(hh:hs.length≤1000):
  zo k k l hs.length 0 C.1 C.2.1 C.2.2.1 C.2.2.2 hs=some (nJ l hs,C.1,C.2.1,C.2.2.1,C.2.2.2,hs):=by
 obtain ⟨s', h1, h2⟩ := vC (L := fun n i (s : List zE) => zo k n s hs.length i C.1 C.2.1 C.2.2.1 C.2.2.2 hs) (N := hs.length) (fun s => (s, C.1, C.2.1, C.2.2.1, C.2.2.2, hs)) (fun i s => s = nJ l (hs.take i)) (fun n s _=>by
  show Es k _ s hs.length hs.length C.1 C.2.1 C.2.2.1 C.2.2.2 hs=_
  unfold Es
  simp only [qB, ab (Nat.lt_irrefl _), aj]) (fun n i s hi hr=>by
  refine⟨_,?_,(qZ4 l hs i hi).symm⟩
  show Es k _ s hs.length i C.1 C.2.1 C.2.2.1 C.2.2.2 hs=_
  unfold Es
  have eF:=(MW (hs.take i) l).1
  rw[←hr] at eF⊢
  simp only[qB,qG,aq,aa hi,ai,zh (show s.length<k by omega) (show qV s by show s.length≤1000;omega),ae,qK hi (show hs.length<9223372036854775808 by omega)]
  rfl) (s:=l) hk rfl
 have:=h1.trans (by rw[h2,List.take_length])
 exact this
theorem Ut {k:Nat}(hk:100<k){B:BT}(hb:qU B){l:List zE}(hl:∀q∈l,yG B.1.length q)(bU:l.length≤64)(t:Int){f:AC}{n:Nat}(hn:n≤l.length)(h:j3 B (yU l t) (gf (yU l t) B.1.length) f n)
  {r:List qO×EQ×AC×EQ×Int} (hr:oI k B.1 B.2.1 B.2.2.1 B.2.2.2 (vA (yU l t) f)=some r):zp k B.1 B.2.1 B.2.2.1 B.2.2.2 l t=some (Ei B l (vA (yU l t) f) r):=by
 have gW:=hb.n6
 have ua:=vf l t
 have h1:=MV (l:=yU l t) (by omega) B.1.length
 have hle:=h.le (vd _ _)
 have h0:=h.nonneg (IL hl) (vd _ _) h1.1
 have KN:f.length=B.1.length:=hle.1.trans (vd _ _)
 have hf:∀i,f.getD i 0≤1000:=fun i=>by
  by_cases c:i<(gf (yU l t) B.1.length).length
  ·have:=hle.2 i c
   have:=h1.2 i
   omega
  ·rw[List.getD_eq_getElem?_getD,List.getElem?_eq_none (by have:=hle.1;omega)]
   show(0:Int)≤1000
   omega
 have MY:=(u9 (yU l t) f).length_le
 unfold zp
 rw[vLr hk hb hl bU t hn h,TN (by omega) (by show l.length≤1000;omega)]
 simp only[ae]
 have e:Ej k (l.filter (iO t)) f=_:=Uk (k:=k) (l:=yU l t) (by omega) (by show(yU l t).length≤1000;omega) h0 hf (by omega)
 rw[e]
 simp only[ae]
 rw[hr]
 simp only[ae]
 unfold Ei
 cases decide (r.2.2.2.2=0) with
 |false=>rfl
 |true=>
  simp only[ay,aj]
  have e2:zo k k l ((List.length (vA (yU l t) f):Nat):Int) 0 r.1 r.2.1 r.2.2.1 r.2.2.2.1 (vA (yU l t) f)=_:=vUr (C:=(r.1,r.2.1,r.2.2.1,r.2.2.2.1)) (by omega) (by omega) (by omega) (by omega)
  rw[e2]
  rfl
end Go.Ab.Gi
