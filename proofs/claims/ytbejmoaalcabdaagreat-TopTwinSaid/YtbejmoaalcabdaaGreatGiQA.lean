/- Plain proofs, part 0. -/
import Derived.Test.YtbejmoaalcabdaaGreatGiAbC
import Derived.Test.YtbejmoaalcabdaaGreatGiXS
set_option linter.unusedVariables false
set_option linter.unusedSimpArgs false
set_option linter.unusedSectionVars false
set_option maxRecDepth 100000
namespace Go.Ab
theorem aa {p:Prop}[Decidable p](h:p):decide p=true:=decide_eq_true h
theorem ab {p:Prop}[Decidable p](h:¬p):decide p=false:=decide_eq_false h
theorem yp {p:Prop}[Decidable p](h:decide p=true):p:=of_decide_eq_true h
theorem df {p:Prop}[Decidable p](h:decide p=false):¬p:=of_decide_eq_false h
theorem aP {p:Prop}[Decidable p]:(decide p=true)=p:=decide_eq_true_eq
theorem af {α β:Type}(a:α)(f:α→Option β):(some a).bind f=f a:=rfl
theorem aj {α:Type}(a b:α):cond true a b=a:=rfl
theorem ak {α:Type}(a b:α):cond false a b=b:=rfl
theorem ao (n:Nat):(n:Int).toNat=n:=rfl
theorem aV (a b:Bool):((a&&b)=true)=(a=true∧b=true):=Bool.and_eq_true a b
theorem aA:(!true)=false:=rfl
theorem bM:(!false)=true:=rfl
end Go.Ab
namespace Go.Ab
theorem zR {x:Int}(h1:-9223372036854775808≤x)(h2:x<9223372036854775808):zA x=x:=by
 unfold zA IntKind.wrap
 simp only[IntKind.bits,IntKind.signed,Bool.true_and]
 by_cases h:x%2^64≥2^(64-1)
 ·rw[if_pos (by simpa using h)];omega
 ·rw[if_neg (by simpa using h)];omega
theorem qJ {i N:Nat}(h:i<N)(hN:N<9223372036854775808):zA ((i:Int)+1)=((i+1:Nat):Int):=by
 rw[zR (by omega) (by omega)];rfl
theorem qH (i n:Nat):zB (i:Int) n=decide (i<n):=by
 unfold zB
 simp
theorem fq {i:Int}{n:Nat}(h0:0≤i)(h1:i<n):zB i n=true:=by
 unfold zB
 simp;omega
theorem qT {n b:Nat}(h:n*b≤140737488355328)(h':n≤140737488355328):zO n b=true:=by
 unfold zO
 rw[Nat.ble_eq_true_of_le h,Nat.ble_eq_true_of_le h'];rfl
theorem qG (i n:Nat):decide ((i:Int)<(n:Int))=decide (i<n):=by simp
theorem qg (i n:Nat):decide ((i:Int)=(n:Int))=decide (i=n):=by
 by_cases h:i=n
 ·subst h;simp
 ·rw[ab h,ab (by omega)]
def qI (p:Nat→Bool):Nat→Nat→Bool
 |0,_=>true
 |c+1,i=>p i&&qI p c (i+1)
theorem yMc {p:Nat→Bool}:∀{c i:Nat},qI p c i=true↔∀j,i≤j→j<i+c→p j=true
 |0,i=>by simp[qI];intro j h1 h2;omega
 |c+1,i=>by
  simp only[qI,aV,yMc (c:=c)]
  constructor
  ·rintro⟨h1,h2⟩ j h3 h4
   by_cases e:j=i
   ·subst e;exact h1
   ·exact h2 j (by omega) (by omega)
  ·intro h
   exact⟨h i (Nat.le_refl i) (by omega),fun j h1 h2=>h j (by omega) (by omega)⟩
theorem gi {p:Nat→Bool}{c:Nat}:qI p c 0=true↔∀j,j<c→p j=true:=by
 rw[yMc]
 exact⟨fun h j hj=>h j (Nat.zero_le j) (by omega),fun h j _ hj=>h j (by omega)⟩
theorem Tg {X:Type}{L:Nat→Int→Option X}{N:Nat}(ok:Nat→Bool)(a b:X)(bF:∀n,L (n+1) (N:Int)=some a)
  (aM:∀n i,i<N→L (n+1) (i:Int)=bif ok i then L n ((i+1:Nat):Int) else some b):∀c i n,i+c=N→c<n→L n (i:Int)=some (bif qI ok c i then a else b)
 |0,i,n,h,hn=>by
  obtain⟨n,rfl⟩:∃m,n=m+1:=⟨n-1,by omega⟩
  have:i=N:=by omega
  subst this
  exact bF n
 |c+1,i,n,h,hn=>by
  obtain⟨n,rfl⟩:∃m,n=m+1:=⟨n-1,by omega⟩
  rw[aM n i (by omega)]
  unfold qI
  cases ok i with
  |false=>rfl
  |true=>
   simp only[aj,Bool.true_and]
   exact Tg ok a b bF aM c (i+1) n (by omega) (by omega)
theorem lg {X:Type}{L:Nat→Int→Option X}{N:Nat}(ok:Nat→Bool)(a b:X)(bF:∀n,L (n+1) (N:Int)=some a)
  (aM:∀n i,i<N→L (n+1) (i:Int)=bif ok i then L n ((i+1:Nat):Int) else some b) {n:Nat} (hn:N<n):L n 0=some (bif qI ok N 0 then a else b):=
 Tg ok a b bF aM N 0 n (by omega) hn
theorem yJ7 {L:Nat→Int→Option (Unit⊕Int)}{N:Nat}(bad:Nat→Bool)(bF:∀n,L (n+1) (N:Int)=some (.inl ()))
  (aM:∀n i,i<N→L (n+1) (i:Int)=bif bad i then some (.inr (i:Int)) else L n ((i+1:Nat):Int)):
  ∀c i n,i+c=N→c<n→(qI (fun j=> !bad j) c i=true∧L n (i:Int)=some (.inl ()))∨∃x:Nat,i≤x∧x<N∧bad x=true∧(∀j,i≤j→j<x→bad j=false)∧qI (fun j=> !bad j) c i=false∧L n (i:Int)=some (.inr (x:Int))
 |0,i,n,h,hn=>by
  obtain⟨n,rfl⟩:∃m,n=m+1:=⟨n-1,by omega⟩
  have:i=N:=by omega
  subst this
  exact .inl ⟨rfl,bF n⟩
 |c+1,i,n,h,hn=>by
  obtain⟨n,rfl⟩:∃m,n=m+1:=⟨n-1,by omega⟩
  rw[aM n i (by omega)]
  unfold qI
  cases hb:bad i with
  |true=>exact .inr ⟨i,Nat.le_refl i,by omega,hb,fun j h1 h2=>absurd h1 (by omega),rfl,rfl⟩
  |false=>
   simp only[ak,bM,Bool.true_and]
   rcases yJ7 bad bF aM c (i+1) n (by omega) (by omega) with h1|⟨x,x1,x2,x3,x4,x5,x6⟩
   ·exact .inl h1
   ·refine .inr ⟨x,by omega,x2,x3,fun j h1 h2=>?_,x5,x6⟩
    by_cases e:j=i
    ·subst e;exact hb
    ·exact x4 j (by omega) h2
theorem uN {L:Nat→Int→Option (Unit⊕Int)}{N:Nat}(bad:Nat→Bool)(bF:∀n,L (n+1) (N:Int)=some (.inl ()))
  (aM:∀n i,i<N→L (n+1) (i:Int)=bif bad i then some (.inr (i:Int)) else L n ((i+1:Nat):Int)) {n:Nat} (hn:N<n):
  ∃x:Unit⊕Int,L n 0=some x∧decide ((match x with|.inl _=>(-1:Int)|.inr y=>y)≥0)= !qI (fun j=> !bad j) N 0:=by
 rcases yJ7 bad bF aM N 0 n (by omega) hn with⟨h1,h2⟩|⟨x,_,_,_,_,h5,h6⟩
 ·exact⟨_,h2,by rw[h1];rfl⟩
 ·exact⟨_,h6,by rw[h5];simp⟩
theorem yDs {S X:Type}{L:Nat→Int→S→Option X}{N:Nat}(e:S→X)(inv:Nat→S→Prop)(bF:∀n s,inv N s→L (n+1) (N:Int) s=some (e s))
  (aM:∀n i s,i<N→inv i s→∃s',L (n+1) (i:Int) s=L n ((i+1:Nat):Int) s'∧inv (i+1) s'):
  ∀c i n s,i+c=N→c<n→inv i s→∃s',L n (i:Int) s=some (e s')∧inv N s'
 |0,i,n,s,h,hn,hs=>by
  obtain⟨n,rfl⟩:∃m,n=m+1:=⟨n-1,by omega⟩
  have:i=N:=by omega
  subst this
  exact⟨s,bF n s hs,hs⟩
 |c+1,i,n,s,h,hn,hs=>by
  obtain⟨n,rfl⟩:∃m,n=m+1:=⟨n-1,by omega⟩
  obtain⟨s',h1,h2⟩:=aM n i s (by omega) hs
  rw[h1]
  exact yDs e inv bF aM c (i+1) n s' (by omega) (by omega) h2
theorem yZ {S X:Type}{L:Nat→Int→S→Option X}{N:Nat}(e:S→X)(inv:Nat→S→Prop)(bF:∀n s,inv N s→L (n+1) (N:Int) s=some (e s))
  (aM:∀n i s,i<N→inv i s→∃s',L (n+1) (i:Int) s=L n ((i+1:Nat):Int) s'∧inv (i+1) s') {n:Nat} {s:S} (hn:N<n) (hs:inv 0 s):
  ∃s',L n 0 s=some (e s')∧inv N s':=yDs e inv bF aM N 0 n s (by omega) hn hs
def zP {α:Type}(g:α→Int):List α→Int
 |[]=>0
 |p::l=>g p+zP g l
theorem lh {α:Type}(g:α→Int):∀(l m:List α),zP g (l++m)=zP g l+zP g m
 |[],m=>by simp[zP]
 |p::l,m=>by
  show g p+zP g (l++m)=g p+zP g l+zP g m
  rw[lh g l m];omega
theorem Cu {α:Type}{g:α→Int}{A:Int}:∀{l:List α},(∀p∈l,-A≤g p∧g p≤A)→-(l.length*A)≤zP g l∧zP g l≤l.length*A
 |[],_=>by simp[zP]
 |p::l,h=>by
  have h1:=h p (List.mem_cons_self ..)
  have h2:=Cu (l:=l) fun q hq=>h q (List.mem_cons_of_mem _ hq)
  have e:((p::l).length:Int)*A=(l.length:Int)*A+A:=by
   rw[List.length_cons,Int.natCast_add,Int.add_mul];simp
  rw[e]
  show-_≤g p+zP g l∧g p+zP g l≤_
  omega
theorem uO {α:Type}{g:α→Int}:∀{l:List α},(∀p∈l,0≤g p)→0≤zP g l
 |[],_=>by simp[zP]
 |p::l,h=>by
  have h1:=h p (List.mem_cons_self ..)
  have h2:=uO (l:=l) fun q hq=>h q (List.mem_cons_of_mem _ hq)
  show 0≤g p+zP g l
  omega
theorem vAy {α:Type}(g h:α→Int):∀(l:List α),zP (fun p=>g p+h p) l=zP g l+zP h l
 |[]=>rfl
 |p::l=>by
  show g p+h p+zP _ l=g p+zP g l+(h p+zP h l)
  rw[vAy g h l];omega
theorem Th {α:Type}(g h:α→Int):∀(l:List α),zP (fun p=>g p-h p) l=zP g l-zP h l
 |[]=>rfl
 |p::l=>by
  show g p-h p+zP _ l=g p+zP g l-(h p+zP h l)
  rw[Th g h l];omega
theorem LO {α:Type}{g h:α→Int}:∀{l:List α},(∀p∈l,g p=h p)→zP g l=zP h l
 |[],_=>rfl
 |p::l,e=>by
  show g p+zP g l=h p+zP h l
  rw[e p (List.mem_cons_self ..),LO fun q hq=>e q (List.mem_cons_of_mem _ hq)]
def qK (g:Nat→Int):Nat→Int
 |0=>0
 |n+1=>qK g n+g n
theorem Cv (g h:Nat→Int):∀n,qK (fun j=>g j+h j) n=qK g n+qK h n
 |0=>rfl
 |n+1=>by
  show qK _ n+(g n+h n)=qK g n+g n+(qK h n+h n)
  rw[Cv g h n];omega
theorem oH {g h:Nat→Int}:∀{n:Nat},(∀j,j<n→g j=h j)→qK g n=qK h n
 |0,_=>rfl
 |n+1,e=>by
  show qK g n+g n=qK h n+h n
  rw[oH fun j hj=>e j (by omega),e n (Nat.lt_succ_self n)]
theorem yq (c:Int)(t:Nat):∀n,qK (fun j=>if j=t then c else 0) n=if t<n then c else 0
 |0=>rfl
 |n+1=>by
  show qK _ n+(if n=t then c else 0)=_
  rw[yq c t n]
  by_cases h:t<n
  ·rw[if_pos h,if_neg (by omega),if_pos (by omega)];omega
  ·by_cases h':n=t
   ·rw[if_neg h,if_pos h',if_pos (by omega)];omega
   ·rw[if_neg h,if_neg h',if_neg (by omega)];omega
theorem Ti:∀n,qK (fun _=>0) n=0
 |0=>rfl
 |n+1=>by show qK _ n+0=0;rw[Ti n];rfl
theorem uP {g:Nat→Int}{A:Int}(h:∀j,-A≤g j∧g j≤A):∀n:Nat,-(n*A)≤qK g n∧qK g n≤n*A
 |0=>by simp[qK]
 |n+1=>by
  have h1:=h n
  have h2:=uP h n
  have e:((n+1:Nat):Int)*A=(n:Int)*A+A:=by
   rw[Int.natCast_add,Int.add_mul];simp
  rw[e]
  show-_≤qK g n+g n∧qK g n+g n≤_
  omega
theorem LP {α:Type}(g:Nat→α→Int)(n:Nat):∀l:List α,qK (fun j=>zP (g j) l) n=zP (fun p=>qK (fun j=>g j p) n) l
 |[]=>Ti n
 |p::l=>by
  show qK (fun j=>g j p+zP (g j) l) n=qK (fun j=>g j p) n+zP _ l
  rw[Cv,LP g n l]
theorem jK {α:Type}{l:List α}{i:Nat}{d:α}(h:i<l.length):l.getD i d∈l:=by
 rw[List.getD_eq_getElem?_getD,List.getElem?_eq_getElem h]
 exact List.getElem_mem h
theorem ft {α:Type}(l:List α)(i:Nat)(d:α)(h:i<l.length):l.take i++[l.getD i d]=l.take (i+1):=by
 rw[List.take_add_one,List.getD_eq_getElem?_getD,List.getElem?_eq_getElem h]
 rfl
theorem jN {α:Type}(l:List α)(i j:Nat)(a d:α):(l.set i a).getD j d=if i=j∧i<l.length then a else l.getD j d:=by
 rw[List.getD_eq_getElem?_getD,List.getD_eq_getElem?_getD,List.getElem?_set]
 by_cases h:i=j
 ·subst h
  by_cases h':i<l.length<;>simp[h']
 ·simp[h]
theorem Cw {α:Type}{l m:List α}(d:α)(hl:l.length=m.length)(h:∀i,i<l.length→l.getD i d=m.getD i d):l=m:=by
 apply List.ext_getElem hl
 intro i h1 h2
 have:=h i h1
 rwa [List.getD_eq_getElem?_getD,List.getD_eq_getElem?_getD,List.getElem?_eq_getElem h1,List.getElem?_eq_getElem h2] at this
theorem vUh (m:Nat)(hm:m≤62)(x:Int):yJ .i64 x (2^m-1)=x%2^m:=by
 unfold yJ rI
 have hp:(2:Int)^m=((2^m:Nat):Int):=by norm_cast
 have hle:2^m≤2^62:=Nat.pow_le_pow_right (by omega) hm
 have oI:0<2^m:=Nat.two_pow_pos m
 have h62:(2:Nat)^62=4611686018427387904:=rfl
 have e1:(BitVec.ofInt IntKind.i64.bits x&&&BitVec.ofInt IntKind.i64.bits (2^m-1)).toNat=(x%2^m).toNat:=by
  rw[BitVec.toNat_and,BitVec.toNat_ofInt,BitVec.toNat_ofInt]
  have e2:((2:Int)^m-1)%((2^IntKind.i64.bits:Nat):Int)=((2^m-1:Nat):Int):=by
   rw[hp]
   have:((2^m:Nat):Int)-1=((2^m-1:Nat):Int):=by omega
   rw[this]
   apply Int.emod_eq_of_lt (by omega)
   show((2^m-1:Nat):Int)<((2^64:Nat):Int)
   have:(2:Nat)^64=18446744073709551616:=rfl
   omega
  rw[e2,ao,Nat.and_two_pow_sub_one_eq_mod]
  have hx:0≤x%((2^IntKind.i64.bits:Nat):Int):=Int.emod_nonneg _ (by show((2^64:Nat):Int)≠0;decide)
  have e3:x%2^m=(x%((2^IntKind.i64.bits:Nat):Int))%((2^m:Nat):Int):=by
   rw[hp,Int.emod_emod_of_dvd]
   show((2^m:Nat):Int)∣((2^64:Nat):Int)
   exact Int.natCast_dvd_natCast.2 (Nat.pow_dvd_pow 2 (by omega))
  rw[e3]
  generalize x%((2^IntKind.i64.bits:Nat):Int)=y at hx
  obtain⟨y,rfl⟩:=Int.eq_ofNat_of_zero_le hx
  rw[ao,←Int.natCast_emod,ao]
 rw[e1]
 have h0:0≤x%2^m:=Int.emod_nonneg _ (by omega)
 have h1:x%2^m<2^m:=Int.emod_lt_of_pos _ (by omega)
 rw[Int.toNat_of_nonneg h0]
 exact zR (by omega) (by omega)
end Go.Ab
namespace Go.Ab.Gi
open Go.Ab
abbrev qR:=Int×Int×Int
abbrev zF:=Int×Int×Int×Int×Int×Int×Int
def eW (a:qR):Bool:=decide (a.1>-4611686018427387904)&&(decide (a.1<4611686018427387904)&&(decide (a.2.1≥0)&&(decide (a.2.1≤2305843009213693952)&&(decide (a.2.2≥0)&&decide (a.2.2≤2305843009213693952)))))
def wO (n:Int):Bool:=decide (n≥-1)&&decide (n≤2305843009213693952)
def gF (n:Int):Bool:=decide (n>-72057594037927936)&&decide (n<72057594037927936)
def cell (m:EQ)(i j:Nat):Int:=(m.getD i []).getD j 0
def lV (n:Nat)(m:EQ):Bool:=decide (m.length=n)&&qI (fun i=>decide ((m.getD i []).length=n)) n 0
def oJ (p:Int→Bool)(n:Nat)(m:EQ):Bool:=qI (fun i=>qI (fun j=>p (cell m i j)) n 0) n 0
def sH (n:Nat)(m:EQ):Bool:=qI (fun i=>qI (fun j=>decide (cell m i j=zA (0-cell m j i))) n 0) n 0
def lW (uQ:List qR)(bil:EQ)(mul:AC)(pos:EQ):Bool:=
 let n:=uQ.length
 decide (1≤n)&&(decide (n≤6)&&(lV n bil&&(lV n pos&&(decide (mul.length=n)&&(qI (fun i=>eW (uQ.getD i (0,0,0))) n 0&&(qI (fun i=>wO (mul.getD i 0)) n 0&&(oJ wO n bil&&(oJ gF n pos&&sH n pos))))))))
theorem Tj (k:Nat)(b c r:Int):HC k b c r=some (eW (b,c,r)):=by
 unfold HC eW
 cases decide (b>-4611686018427387904)<;>cases decide (b<4611686018427387904)<;>cases decide (c≥0)<;>cases decide (c≤2305843009213693952)<;>cases decide (r≥0)<;>rfl
theorem yM6 (k:Nat)(b c r:Int):LQ k b c r=some (eW (b,c,r)):=Tj k b c r
theorem Tl (k:Nat)(n:Int):HD k n=some (wO n):=by
 unfold HD wO
 cases decide (n≥-1)<;>rfl
theorem vR8 (k:Nat)(n:Int):Tm k n=some (wO n):=Tl k n
theorem vPl (k:Nat)(n:Int):LR k n=some (gF n):=by
 unfold LR gF
 cases decide (n>-72057594037927936)<;>rfl
theorem yN2 {k:Nat}{n:Nat}(hk:n<k)(hn:n≤1000)(m:EQ):HE k m n=some (lV n m):=by
 unfold HE lV
 simp only[qg]
 by_cases h:m.length=n
 ·have := lg (L := fun c i => HF k c m n i) (N := n) (fun i => decide ((m.getD i []).length = n)) (.inl ()) (.inr false) (fun c=>by
    show Cx k _ m n n=_
    unfold Cx
    simp only [qG, ab (Nat.lt_irrefl n), ak]) (fun c i hi=>by
    show Cx k _ m n i=_
    unfold Cx
    simp only[qH,qJ hi (by omega),qG,qg,ao,h,aa hi,aj]
    cases decide ((m.getD i []).length=n)<;>rfl) hk
  simp only[h,decide_true,aA,ak,Bool.true_and]
  rw[this]
  generalize qI _ _ _=r
  cases r<;>rfl
 ·simp only[ab h,bM,aj,Bool.false_and]
theorem Tn {k:Nat}{N i:Nat}(hk:N<k)(hN:N≤1000)(hi:i<N){a:List qR}{b p:EQ}{m:AC}(hb:b.length=N)(hp:p.length=N)(To:∀j,j<N→(b.getD j []).length=N)(oK:∀j,j<N→(p.getD j []).length=N):
  Cy k k N i 0 a b m p=some (bif qI (fun j=>wO (cell b i j)&&(gF (cell p i j)&&decide (cell p i j=zA (0-cell p j i)))) N 0 then .inl ((N:Int),(i:Int),a,b,m,p) else .inr false):=by
 refine lg (L:=fun c j=>Cy k c N i j a b m p) (N:=N) _ (.inl ((N:Int),(i:Int),a,b,m,p)) (.inr false) (fun c=>?_) (fun c j hj=>?_) hk
 ·show Cz k _ N i N a b m p=_
  unfold Cz
  simp only[qG,ab (Nat.lt_irrefl N),ak]
 ·show Cz k _ N i j a b m p=_
  unfold Cz
  simp only[qH,qJ hj (by omega),qG,ao,hb,hp,To i hi,oK i hi,oK j hj,aa hj,aa hi,aj,Tl,af,gF]
  show(bif !wO (cell b i j) then _ else bif decide (cell p i j≤_) then _ else bif decide (cell p i j≥_) then _ else bif !decide (cell p i j=_) then _ else _)=_
  have e1:decide (cell p i j≤-72057594037927936)= !decide (cell p i j>-72057594037927936):=by
   by_cases h:cell p i j≤-72057594037927936
   ·rw[aa h,ab (by omega)];rfl
   ·rw[ab h,aa (by omega)];rfl
  have e2:decide (cell p i j≥72057594037927936)= !decide (cell p i j<72057594037927936):=by
   by_cases h:cell p i j≥72057594037927936
   ·rw[aa h,ab (by omega)];rfl
   ·rw[ab h,aa (by omega)];rfl
  rw[e1,e2]
  show(bif !wO (cell b i j) then _ else bif _ then _ else bif _ then _ else bif !decide (cell p i j=zA (0-cell p j i)) then _ else _)=_
  cases wO (cell b i j)<;>cases decide (cell p i j>-72057594037927936)<;>cases decide (cell p i j<72057594037927936)<;>cases decide (cell p i j=zA (0-cell p j i))<;>rfl
theorem vKc {k:Nat}{N:Nat}(hk:N<k)(hN:N≤1000){a:List qR}{b p:EQ}{m:AC}(ha:a.length=N)(hm:m.length=N)(hb:b.length=N)(hp:p.length=N)(To:∀j,j<N→(b.getD j []).length=N)(oK:∀j,j<N→(p.getD j []).length=N):
  CA k k N 0 a b m p=some (bif qI (fun i=>eW (a.getD i (0,0,0))&&(wO (m.getD i 0)&&qI (fun j=>wO (cell b i j)&&(gF (cell p i j)&&decide (cell p i j=zA (0-cell p j i)))) N 0)) N 0 then .inl () else .inr false):=by
 refine lg (L:=fun c j=>CA k c N j a b m p) (N:=N) _ (.inl ()) (.inr false) (fun c=>?_) (fun c i hi=>?_) hk
 ·show CB k _ N N a b m p=_
  unfold CB
  simp only[qG,ab (Nat.lt_irrefl N),ak]
 ·show CB k _ N i a b m p=_
  unfold CB
  simp only[qH,qG,ao,ha,hm,aa hi,aj,Tl,Tj,af,Tn hk hN hi hb hp To oK]
  generalize qI _ N 0=r
  show(bif !eW (a.getD i (0,0,0)) then _ else _)=_
  cases eW (a.getD i (0,0,0))<;>cases wO (m.getD i 0)<;>cases r<;>simp only[aA,bM,aj,ak,Bool.and_true,Bool.and_false,Bool.true_and,Bool.false_and,qJ hi (show N<9223372036854775808 by omega)]
theorem vQ9 {k:Nat}(hk:10<k)(a:List qR)(b:EQ)(m:AC)(p:EQ):LS k a b m p=some (lW a b m p):=by
 unfold LS
 have l1:decide ((a.length:Int)<1)= !decide (1≤a.length):=by
  by_cases h:1≤a.length
  ·rw[aa h,ab (by omega)];rfl
  ·rw[ab h,aa (by omega)];rfl
 have l2:decide ((a.length:Int)>6)= !decide (a.length≤6):=by
  by_cases h:a.length≤6
  ·rw[aa h,ab (by omega)];rfl
  ·rw[ab h,aa (by omega)];rfl
 rw[l1,l2]
 unfold lW
 dsimp only
 by_cases h1:1≤a.length
 case neg=>rw[ab h1];rfl
 by_cases h2:a.length≤6
 case neg=>rw[aa h1,ab h2];rfl
 rw[aa h1,aa h2]
 simp only[aA,ak,Bool.true_and]
 rw[yN2 (by omega) (by omega),yN2 (by omega) (by omega)]
 simp only[af,qg]
 cases hb:lV a.length b with
 |false=>rfl
 |true=>
  cases hp:lV a.length p with
  |false=>rfl
  |true=>
   by_cases hm:m.length=a.length
   case neg=>simp only[ab hm];rfl
   simp only[lV,aV,aP,gi] at hb hp
   simp only[hm,decide_true,aA,ak,Bool.true_and]
   rw[vKc (by omega) (by omega) rfl hm hb.1 hp.1 hb.2 hp.2]
   have e:(qI (fun i=>eW (a.getD i (0,0,0))) a.length 0&&(qI (fun i=>wO (m.getD i 0)) a.length 0&&(oJ wO a.length b&&(oJ gF a.length p&&sH a.length p))))=
     qI (fun i=>eW (a.getD i (0,0,0))&&(wO (m.getD i 0)&&qI (fun j=>wO (cell b i j)&&(gF (cell p i j)&&decide (cell p i j=zA (0-cell p j i)))) a.length 0)) a.length 0:=by
    rw[Bool.eq_iff_iff]
    simp only[oJ,sH,aV,gi]
    constructor
    ·rintro⟨h1,h2,h3,h4,h5⟩ i hi
     exact⟨h1 i hi,h2 i hi,fun j hj=>⟨h3 i hi j hj,h4 i hi j hj,h5 i hi j hj⟩⟩
    ·intro h
     exact⟨fun i hi=>(h i hi).1,fun i hi=>(h i hi).2.1,fun i hi j hj=>((h i hi).2.2 j hj).1,fun i hi j hj=>((h i hi).2.2 j hj).2.1,fun i hi j hj=>((h i hi).2.2 j hj).2.2⟩
   rw[e]
   generalize qI _ _ _=r
   cases r<;>rfl
theorem vU4 {k:Nat}{a:List qR}(hk:a.length<k)(hl:a.length<9223372036854775808):LU k a=some (!qI (fun i=>eW (a.getD i (0,0,0))) a.length 0):=by
 obtain ⟨x, h1, h2⟩ := uN (L := fun c i => HG k c a a.length i) (N := a.length) (fun i => !eW (a.getD i (0, 0, 0))) (fun c=>by
  show CC k _ a a.length a.length=_
  unfold CC
  simp only [qG, ab (Nat.lt_irrefl _), ak]) (fun c i hi=>by
  show CC k _ a a.length i=_
  unfold CC Tp
  simp only[qH,qJ hi hl,qG,ao,aa hi,aj,yM6,af]) hk
 unfold LU Tq
 rw[h1]
 simp only[Bool.not_not] at h2
 rw[←h2]
 cases x<;>rfl
theorem vHd {k:Nat}{a:AC}(hk:a.length<k)(hl:a.length<9223372036854775808):LV k a=some (!qI (fun i=>wO (a.getD i 0)) a.length 0):=by
 obtain ⟨x, h1, h2⟩ := uN (L := fun c i => HH k c a a.length i) (N := a.length) (fun i => !wO (a.getD i 0)) (fun c=>by
  show CD k _ a a.length a.length=_
  unfold CD
  simp only [qG, ab (Nat.lt_irrefl _), ak]) (fun c i hi=>by
  show CD k _ a a.length i=_
  unfold CD Ts
  simp only[qH,qJ hi hl,qG,ao,aa hi,aj,vR8,af]) hk
 unfold LV Tt
 rw[h1]
 simp only[Bool.not_not] at h2
 rw[←h2]
 cases x<;>rfl
theorem Tu {k:Nat}{a:AC}(hk:a.length<k)(hl:a.length<9223372036854775808):LW k a=some (!qI (fun i=>gF (a.getD i 0)) a.length 0):=by
 obtain ⟨x, h1, h2⟩ := uN (L := fun c i => HI k c a a.length i) (N := a.length) (fun i => !gF (a.getD i 0)) (fun c=>by
  show CE k _ a a.length a.length=_
  unfold CE
  simp only [qG, ab (Nat.lt_irrefl _), ak]) (fun c i hi=>by
  show CE k _ a a.length i=_
  unfold CE Tv
  simp only[qH,qJ hi hl,qG,ao,aa hi,aj,vPl,af]) hk
 unfold LW Tw
 rw[h1]
 simp only[Bool.not_not] at h2
 rw[←h2]
 cases x<;>rfl
theorem yJf {k n:Nat}(hk:n<k)(hn:n≤1000)(a:AC):HJ k a n=some (decide (a.length=n)&&qI (fun i=>wO (a.getD i 0)) n 0):=by
 unfold HJ
 simp only[qg]
 by_cases h:a.length=n
 ·rw[vHd (by omega) (by omega)]
  simp only[h,decide_true,aj,af,Bool.not_not,Bool.true_and]
 ·simp only[ab h,ak,Bool.false_and]
theorem Tx {k n:Nat}(hk:n<k)(hn:n≤1000)(a:AC):LX k a n=some (decide (a.length=n)&&qI (fun i=>gF (a.getD i 0)) n 0):=by
 unfold LX
 simp only[qg]
 by_cases h:a.length=n
 ·rw[Tu (by omega) (by omega)]
  simp only[h,decide_true,aj,af,Bool.not_not,Bool.true_and]
 ·simp only[ab h,ak,Bool.false_and]
theorem Tz {k n:Nat}(hk:n<k)(hn:n≤1000)(m:EQ):LY k m n=some (decide (m.length=n)&&qI (fun i=>decide ((m.getD i []).length=n)&&qI (fun j=>wO (cell m i j)) n 0) n 0):=by
 unfold LY
 simp only[qg]
 by_cases h:m.length=n
 ·have := lg (L := fun c i => HK k c n m n i) (N := n) (fun i => decide ((m.getD i []).length = n) && qI (fun j => wO (cell m i j)) n 0) (.inl ()) (.inr false) (fun c=>by
    show CF k _ n m n n=_
    unfold CF
    simp only [qG, ab (Nat.lt_irrefl n), ak]) (fun c i hi=>by
    show CF k _ n m n i=_
    unfold CF
    simp only[qH,qJ hi (by omega),qG,ao,h,aa hi,aj,yJf hk hn,af]
    show(bif !(decide ((m.getD i []).length=n)&&qI (fun j=>wO (cell m i j)) n 0) then _ else _)=_
    generalize (decide ((m.getD i []).length=n)&&qI (fun j=>wO (cell m i j)) n 0)=r
    cases r<;>rfl) hk
  simp only[h,decide_true,aA,ak,Bool.true_and]
  rw[this]
  generalize qI _ _ _=r
  cases r<;>rfl
 ·simp only[ab h,bM,aj,Bool.false_and]
theorem vN1 {k n:Nat}(hk:n<k)(hn:n≤1000)(m:EQ):LZ k m n=some (decide (m.length=n)&&qI (fun i=>decide ((m.getD i []).length=n)&&qI (fun j=>gF (cell m i j)) n 0) n 0):=by
 unfold LZ
 simp only[qg]
 by_cases h:m.length=n
 ·have := lg (L := fun c i => HL k c n m n i) (N := n) (fun i => decide ((m.getD i []).length = n) && qI (fun j => gF (cell m i j)) n 0) (.inl ()) (.inr false) (fun c=>by
    show CG k _ n m n n=_
    unfold CG
    simp only [qG, ab (Nat.lt_irrefl n), ak]) (fun c i hi=>by
    show CG k _ n m n i=_
    unfold CG
    simp only[qH,qJ hi (by omega),qG,ao,h,aa hi,aj,Tx hk hn,af]
    show(bif !(decide ((m.getD i []).length=n)&&qI (fun j=>gF (cell m i j)) n 0) then _ else _)=_
    generalize (decide ((m.getD i []).length=n)&&qI (fun j=>gF (cell m i j)) n 0)=r
    cases r<;>rfl) hk
  simp only[h,decide_true,aA,ak,Bool.true_and]
  rw[this]
  generalize qI _ _ _=r
  cases r<;>rfl
 ·simp only[ab h,bM,aj,Bool.false_and]
theorem vHw {k N i:Nat}(hk:N<k)(hN:N≤1000)(hi:i<N){p q:EQ}{u:Int}(hp:p.length=N)(oK:∀j,j<N→(p.getD j []).length=N):
  CH k k p i q u i (p.getD i []) N 0=some (bif qI (fun j=>decide (cell p j i=zA (0-cell p i j))) N 0 then .inl (p,q,u,(i:Int)) else .inr false):=by
 refine lg (L:=fun c j=>CH k c p i q u i (p.getD i []) N j) (N:=N) _ (.inl (p,q,u,(i:Int))) (.inr false) (fun c=>?_) (fun c j hj=>?_) hk
 ·show CI k _ p i q u i (p.getD i []) N N=_
  unfold CI
  simp only[qG,ab (Nat.lt_irrefl N),ak]
 ·show CI k _ p i q u i (p.getD i []) N j=_
  unfold CI
  simp only[qH,qJ hj (show N<9223372036854775808 by omega),qG,ao,hp,oK i hi,oK j hj,aa hj,aa hi,aj]
  show(bif !decide (cell p j i=zA (0-cell p i j)) then _ else _)=_
  generalize decide (cell p j i=zA (0-cell p i j))=r
  cases r<;>rfl
theorem vYb {k N:Nat}(hk:N<k)(hN:N≤1000){p:EQ}(hp:p.length=N)(oK:∀j,j<N→(p.getD j []).length=N):
  L1 k p=some (sH N p):=by
 have := lg (L := fun c i => HM k c p p N i) (N := N) (fun i => qI (fun j => decide (cell p j i = zA (0 - cell p i j))) N 0) (.inl ()) (.inr false) (fun c=>by
   show CJ k _ p p N N=_
   unfold CJ
   simp only [qG, ab (Nat.lt_irrefl N), ak]) (fun c i hi=>by
   show CJ k _ p p N i=_
   unfold CJ
   simp only[qH,qG,ao,hp,oK i hi,aa hi,aj,vHw hk hN hi hp oK,af]
   generalize qI _ N 0=r
   cases r<;>simp only[aj,ak,qJ hi (show N<9223372036854775808 by omega)]) hk
 unfold L1
 simp only[hp]
 rw[this]
 have e:qI (fun i=>qI (fun j=>decide (cell p j i=zA (0-cell p i j))) N 0) N 0=sH N p:=by
  rw[Bool.eq_iff_iff]
  simp only[sH,gi]
  exact⟨fun h i hi j hj=>h j hj i hi,fun h i hi j hj=>h j hj i hi⟩
 rw[e]
 generalize sH N p=r
 cases r<;>rfl
theorem vJ8 {k:Nat}(hk:10<k)(a:List qR)(b:EQ)(m:AC)(p:EQ):HN k a b m p=some (lW a b m p):=by
 unfold HN
 have l1:decide ((a.length:Int)<1)= !decide (1≤a.length):=by
  by_cases h:1≤a.length
  ·rw[aa h,ab (by omega)];rfl
  ·rw[ab h,aa (by omega)];rfl
 have l2:decide ((a.length:Int)>6)= !decide (a.length≤6):=by
  by_cases h:a.length≤6
  ·rw[aa h,ab (by omega)];rfl
  ·rw[ab h,aa (by omega)];rfl
 rw[l1,l2]
 unfold lW
 dsimp only
 by_cases h1:1≤a.length
 case neg=>rw[ab h1];rfl
 by_cases h2:a.length≤6
 case neg=>rw[aa h1,ab h2];rfl
 rw[aa h1,aa h2]
 simp only[aA,ak,Bool.true_and]
 rw[vU4 (by omega) (by omega),Tz (by omega) (by omega),yJf (by omega) (by omega),vN1 (by omega) (by omega)]
 simp only[af]
 generalize hA:qI (fun i=>eW (a.getD i (0,0,0))) a.length 0=A
 have sq:∀(q:Int→Bool) (m:EQ),(decide (m.length=a.length)&&qI (fun i=>decide ((m.getD i []).length=a.length)&&qI (fun j=>q (cell m i j)) a.length 0) a.length 0)=(lV a.length m&&oJ q a.length m):=by
  intro q m
  rw[Bool.eq_iff_iff]
  simp only[lV,oJ,aV,aP,gi]
  exact⟨fun h=>⟨⟨h.1,fun i hi=>(h.2 i hi).1⟩,fun i hi=>(h.2 i hi).2⟩,fun h=>⟨h.1.1,fun i hi=>⟨h.1.2 i hi,h.2 i hi⟩⟩⟩
 rw[sq wO b,sq gF p]
 cases hp:lV a.length p with
 |false=>
  cases A<;>cases lV a.length b<;>cases oJ wO a.length b<;>cases decide (m.length=a.length)<;>cases qI (fun i=>wO (m.getD i 0)) a.length 0<;>rfl
 |true=>
  simp only[lV,aV,aP,gi] at hp
  rw[vYb (N:=a.length) (by omega) (by omega) hp.1 hp.2]
  cases A<;>cases lV a.length b<;>cases oJ wO a.length b<;>cases decide (m.length=a.length)<;>cases qI (fun i=>wO (m.getD i 0)) a.length 0<;>cases oJ gF a.length p<;>cases sH a.length p<;>rfl
theorem yRo {k N:Nat}{s:EQ}(hN:s.length=N)(hl:N≤1000)(hr:∀i,i<N→(s.getD i []).length≤1000):∀(c i n:Nat),i+c=N→c<n→HO k n s i (s.take i)=some s
 |0,i,n,h,hn=>by
  obtain⟨n,rfl⟩:∃m,n=m+1:=⟨n-1,by omega⟩
  show CK k _ s i (s.take i)=_
  unfold CK
  have:¬i<s.length:=by omega
  simp only[qG,ab this,ak]
  rw[List.take_of_length_le (by omega)]
 |c+1,i,n,h,hn=>by
  obtain⟨n,rfl⟩:∃m,n=m+1:=⟨n-1,by omega⟩
  show CK k _ s i (s.take i)=_
  unfold CK
  have hi:i<s.length:=by omega
  have h1:=hr i (by omega)
  have e1:zO (0+(s.getD i []).length) 8=true:=qT (by omega) (by omega)
  have e2:zO ((s.take i).length+1) 24=true:=qT (by rw[List.length_take];omega) (by rw[List.length_take];omega)
  simp only[qH,qJ hi (show s.length<9223372036854775808 by omega),qG,ao,aa hi,aj,e1,e2]
  rw[ft s i [] hi]
  exact yRo hN hl hr c (i+1) n (by omega) (by omega)
theorem yPx {k:Nat}{s:EQ}(hl:s.length≤1000)(hk:s.length<k)(hr:∀i,i<s.length→(s.getD i []).length≤1000):HP k s=some s:=by
 unfold HP
 have:=yRo (k:=k) rfl hl hr s.length 0 k (by omega) hk
 rw[List.take_zero] at this
 have e:((0:Nat):Int)=0:=rfl
 rw[e] at this
 rw[this]
 rfl
theorem yDf {k N:Nat}{s:EQ}(hN:s.length=N)(hl:N≤1000)(hr:∀i,i<N→(s.getD i []).length≤1000):∀(c i n:Nat),i+c=N→c<n→HQ k n s N i (s.take i) N=some (s,N)
 |0,i,n,h,hn=>by
  obtain⟨n,rfl⟩:∃m,n=m+1:=⟨n-1,by omega⟩
  show CL k _ s N i (s.take i) N=_
  unfold CL
  have:¬i<N:=by omega
  simp only[qG,ab this,ak]
  rw[List.take_of_length_le (by omega)]
 |c+1,i,n,h,hn=>by
  obtain⟨n,rfl⟩:∃m,n=m+1:=⟨n-1,by omega⟩
  show CL k _ s N i (s.take i) N=_
  unfold CL oL
  have hi:i<N:=by omega
  have h1:=hr i (by omega)
  have e1:zO (0+(s.getD i []).length) 8=true:=qT (by omega) (by omega)
  have e2:Nat.beq i (s.take i).length=true:=by rw[List.length_take,Nat.min_eq_left (by omega)];simp
  simp only[qH,qJ hi (show N<9223372036854775808 by omega),qG,ao,aa hi,aj,e1,e2,hN,af]
  rw[ft s i [] (by omega)]
  exact yDf hN hl hr c (i+1) n (by omega) (by omega)
theorem yOa {k:Nat}{s:EQ}(hl:s.length≤1000)(hk:s.length<k)(hr:∀i,i<s.length→(s.getD i []).length≤1000):HR k s=some s:=by
 unfold HR TA
 have:=yDf (k:=k) rfl hl hr s.length 0 k (by omega) hk
 rw[List.take_zero] at this
 have e:((0:Nat):Int)=0:=rfl
 rw[e] at this
 have e1:zO (0+s.length) 24=true:=qT (by omega) (by omega)
 simp only[e1,aj,af]
 rw[this]
 simp only[af,vU0]
 simp
structure Sized (a:List qR) (b:EQ) (m:AC) (p:EQ):Prop where
 n1:1≤a.length
 n6:a.length≤6
 bl:b.length=a.length
 br:∀i,i<a.length→(b.getD i []).length=a.length
 ml:m.length=a.length
 pl:p.length=a.length
 pr:∀i,i<a.length→(p.getD i []).length=a.length
structure wL (a:List qR) (b:EQ) (m:AC) (p:EQ):Prop extends Sized a b m p where
 acct:∀i,i<a.length→eW (a.getD i (0,0,0))=true
 mul:∀i,i<a.length→wO (m.getD i 0)=true
 bil:∀i,i<a.length→∀j,j<a.length→wO (cell b i j)=true
 net:∀i,i<a.length→∀j,j<a.length→gF (cell p i j)=true
 turn:∀i,i<a.length→∀j,j<a.length→cell p i j=zA (0-cell p j i)
theorem TB {a:List qR}{b:EQ}{m:AC}{p:EQ}:lW a b m p=true↔wL a b m p:=by
 unfold lW
 simp only[aV,aP,lV,oJ,sH,gi]
 constructor
 ·rintro⟨h1,h2,⟨h3,h4⟩,⟨h5,h6⟩,h7,h8,h9,TC,TD,TE⟩
  exact{n1:=h1,n6:=h2,bl:=h3,br:=h4,ml:=h7,pl:=h5,pr:=h6,acct:=h8,mul:=h9,bil:=TC,net:=TD,turn:=TE}
 ·intro h
  exact⟨h.n1,h.n6,⟨h.bl,h.br⟩,⟨h.pl,h.pr⟩,h.ml,h.acct,h.mul,h.bil,h.net,h.turn⟩
theorem HS {k:Nat}(hk:10<k){a:List qR}{b:EQ}{m:AC}{p:EQ}(h:Sized a b m p):nD k a b m p=some (a,b,m,p):=by
 obtain⟨h1,h2,h3,h4,h5,h6,h7⟩:=h
 unfold nD
 have e1:zO (0+a.length) 24=true:=qT (by omega) (by omega)
 have e2:zO (0+m.length) 8=true:=qT (by omega) (by omega)
 rw[yPx (s:=b) (by omega) (by omega) (fun i hi=>by rw[h4 i (by omega)];omega),yPx (s:=p) (by omega) (by omega) (fun i hi=>by rw[h7 i (by omega)];omega)]
 simp only[e1,e2,aj,af]
theorem HT {k:Nat}(hk:10<k){a:List qR}{b:EQ}{m:AC}{p:EQ}(h:Sized a b m p):fU k a b m p=some (a,b,m,p):=by
 obtain⟨h1,h2,h3,h4,h5,h6,h7⟩:=h
 unfold fU TF oL
 have e1:zO (0+a.length) 24=true:=qT (by omega) (by omega)
 have e2:zO (0+m.length) 8=true:=qT (by omega) (by omega)
 rw[yOa (s:=b) (by omega) (by omega) (fun i hi=>by rw[h4 i (by omega)];omega),yOa (s:=p) (by omega) (by omega) (fun i hi=>by rw[h7 i (by omega)];omega)]
 simp only[e1,e2,aj,af]
theorem HU {α:Type}(d:α)[DecidableEq α]{a b:List α}(h:a.length=b.length):qI (fun i=>decide (a.getD i d=b.getD i d)) a.length 0=decide (a=b):=by
 rw[Bool.eq_iff_iff,gi]
 simp only[aP]
 exact⟨fun h'=>Cw d h h',fun h'=>by subst h';exact fun i hi=>rfl⟩
theorem L3 {k:Nat}{a b:AC}(hk:a.length<k)(hl:a.length<9223372036854775808):sI k a b=some (decide (a=b)):=by
 unfold sI
 simp only[qg]
 by_cases h:a.length=b.length
 ·have := lg (L := fun c i => HV k c a b i) (N := a.length) (fun i => decide (a.getD i 0 = b.getD i 0)) (.inl ()) (.inr false) (fun c=>by
    show CM k _ a b a.length=_
    unfold CM
    simp only [qG, ab (Nat.lt_irrefl _), ak]) (fun c i hi=>by
    show CM k _ a b i=_
    unfold CM
    simp only[qH,qJ hi hl,qG,ao,←h,aa hi,aj]
    cases decide (a.getD i 0=b.getD i 0)<;>rfl) hk
  rw[HU 0 h] at this
  simp only[h,decide_true,aA,ak]
  rw[this]
  cases decide (a=b)<;>rfl
 ·simp only[ab h,bM,aj]
  rw[ab fun e=>h (by rw[e])]
theorem TG {k:Nat}{a b:EQ}(hk:a.length<k)(hl:a.length<9223372036854775808)(hr:∀i,i<a.length→(a.getD i []).length<k∧(a.getD i []).length<9223372036854775808):yr k a b=some (decide (a=b)):=by
 unfold yr
 simp only[qg]
 by_cases h:a.length=b.length
 ·have := lg (L := fun c i => HW k c a b i) (N := a.length) (fun i => decide (a.getD i [] = b.getD i [])) (.inl ()) (.inr false) (fun c=>by
    show CN k _ a b a.length=_
    unfold CN
    simp only [qG, ab (Nat.lt_irrefl _), ak]) (fun c i hi=>by
    show CN k _ a b i=_
    unfold CN
    simp only[qH,qJ hi hl,qG,ao,←h,aa hi,aj,L3 (hr i hi).1 (hr i hi).2,af]
    cases decide (a.getD i []=b.getD i [])<;>rfl) hk
  rw[HU [] h] at this
  simp only[h,decide_true,aA,ak]
  rw[this]
  cases decide (a=b)<;>rfl
 ·simp only[ab h,bM,aj]
  rw[ab fun e=>h (by rw[e])]
theorem vH1 {k:Nat}(hk:10<k){a:List qR}{b:EQ}{m:AC}{p:EQ}(h:Sized a b m p)(a':List qR)(b':EQ)(m':AC)(p':EQ):
  HX k a b m p a' b' m' p'=some (decide (a=a')&&(decide (b=b')&&(decide (p=p')&&decide (m=m')))):=by
 obtain⟨h1,h2,h3,h4,h5,h6,h7⟩:=h
 unfold HX
 simp only[qg]
 by_cases hl:a.length=a'.length
 ·rw[TG (a:=b) (by omega) (by omega) (fun i hi=>by rw[h4 i (by omega)];omega),TG (a:=p) (by omega) (by omega) (fun i hi=>by rw[h7 i (by omega)];omega),L3 (by omega) (by omega)]
  have := lg (L := fun c i => HY k c i a b m p a' b' m' p') (N := a.length) (fun i => decide (a.getD i (0, 0, 0) = a'.getD i (0, 0, 0))) (.inl ()) (.inr false) (fun c=>by
    show CO k _ a.length a b m p a' b' m' p'=_
    unfold CO
    simp only [qG, ab (Nat.lt_irrefl _), ak]) (fun c i hi=>by
    show CO k _ i a b m p a' b' m' p'=_
    unfold CO
    simp only[qH,qJ hi (show a.length<9223372036854775808 by omega),qG,ao,←hl,aa hi,aj]
    have e:decide (a.getD i (0,0,0)=a'.getD i (0,0,0))=(decide ((a.getD i (0,0,0)).1=(a'.getD i (0,0,0)).1)&&(decide ((a.getD i (0,0,0)).2.1=(a'.getD i (0,0,0)).2.1)&&decide ((a.getD i (0,0,0)).2.2=(a'.getD i (0,0,0)).2.2))):=by
     rw[Bool.eq_iff_iff]
     simp only[aV,aP]
     exact⟨fun h=>by rw[h];exact⟨rfl,rfl,rfl⟩,fun h=>Prod.ext h.1 (Prod.ext h.2.1 h.2.2)⟩
    rw[e]
    generalize (decide ((a.getD i (0,0,0)).1=(a'.getD i (0,0,0)).1)&&_)=r
    cases r<;>rfl) (show a.length<k by omega)
  rw[HU (0,0,0) hl] at this
  simp only[hl,decide_true,aA,ak,af]
  have e0:((0:Nat):Int)=0:=rfl
  rw[this]
  cases decide (b=b')<;>cases decide (p=p')<;>cases decide (m=m')<;>cases decide (a=a')<;>rfl
 ·simp only[ab hl,bM,aj]
  rw[ab fun e=>hl (by rw[e])]
  rfl
abbrev pd:zF:=(0,(0,(0,(0,(0,(0,0))))))
abbrev ad:qR:=(0,(0,0))
def sJ (n:Nat)(p:zF):Bool:=decide (p.2.1≥0)&&(decide (p.2.1<(n:Int))&&(decide (p.2.2.1≥0)&&(decide (p.2.2.1<(n:Int))&&(!decide (p.2.1=p.2.2.1)&&(decide (p.2.2.2.1≥1)&&(decide (p.2.2.2.1≤1099511627776)&&(decide (p.2.2.2.2.1≥1)&&decide (p.2.2.2.2.1≤3))))))))
structure yI (n:Nat) (p:zF):Prop where
 f0:0≤p.2.1
 f1:p.2.1<n
 t0:0≤p.2.2.1
 t1:p.2.2.1<n
 ne:p.2.1≠p.2.2.1
 a1:1≤p.2.2.2.1
 a2:p.2.2.2.1≤1099511627776
 c1:1≤p.2.2.2.2.1
 c3:p.2.2.2.2.1≤3
theorem vCe {n p}:sJ n p=true↔yI n p:=by
 unfold sJ
 simp
 exact⟨fun⟨h1,h2,h3,h4,h5,h6,h7,h8,h9⟩=>⟨h1,h2,h3,h4,h5,h6,h7,h8,h9⟩,fun⟨h1,h2,h3,h4,h5,h6,h7,h8,h9⟩=>by grind⟩
theorem TH k (a:List qR) b m p i f t am c s ti:CP k a b m p i f t am c s ti=some (sJ a.length (i,f,t,am,c,s,ti)):=by
 unfold CP sJ
 grind
theorem vYc k (a:List qR) b m p i f t am c s ti:TI k a b m p i f t am c s ti=some (sJ a.length (i,f,t,am,c,s,ti)):=TH k a b m p i f t am c s ti
def mN (n:Nat)(l:List zF):Bool:=qI (fun i=>sJ n (l.getD i pd)) l.length 0
theorem yt {n l}:mN n l=true↔∀p∈l,yI n p:=by
 unfold mN
 rw[gi]
 constructor
 ·intro h p hp
  obtain⟨i,hi,rfl⟩:=List.getElem_of_mem hp
  have:=h i hi
  rw[List.getD_eq_getElem?_getD,List.getElem?_eq_getElem hi] at this
  exact vCe.1 this
 ·intro h i hi
  exact vCe.2 (by grind)
theorem vIj {k}{l:List zF}(hk:l.length<k)(hl:l.length<9223372036854775808)(a:List qR) b m p:L4 k l a b m p=some (!mN a.length l):=by
 obtain ⟨x, h1, h2⟩ := uN (L := fun c i => HZ k c l l.length i a b m p) (N := l.length) (fun i => !sJ a.length (l.getD i pd)) (fun c=>by
  show CQ k _ l l.length l.length a b m p=_
  unfold CQ
  simp) (fun c i hi=>by
  show CQ k _ l l.length i a b m p=_
  unfold CQ TJ
  simp[qH,qJ hi hl,aa hi,TH]) hk
 unfold L4 TK
 unfold mN
 grind
theorem yDl {k}{l:List zF}(hk:l.length<k)(hl:l.length<9223372036854775808)(a:List qR) b m p:H0 k a b m p l=some (mN a.length l&&decide (l.length≤64)):=by
 unfold H0
 have := lg (L := fun c i => H2 k c l i a b m p) (N := l.length) (fun i => sJ a.length (l.getD i pd)) (.inl l) (.inr false) (fun c=>by
  show CR k _ l l.length a b m p=_
  unfold CR
  simp) (fun c i hi=>by
  show CR k _ l i a b m p=_
  unfold CR
  simp only[qH,qJ hi hl,qG,aa hi,vYc]
  simp) hk
 unfold mN
 have e:decide (((l.length:Nat):Int)≤64)=decide (l.length≤64):=by
  grind
 grind
def gB (i:Nat)(p:zF):Int:=(if p.2.2.1=i then p.2.2.2.1 else 0)-(if p.2.1=i then p.2.2.2.1 else 0)
def gS (i j:Nat)(p:zF):Int:=if p.2.1=i∧p.2.2.1=j then p.2.2.2.1 else 0
def gR (i:Nat)(p:zF):Int:=if p.2.1=i∧p.2.2.2.2.1≠3 then p.2.2.2.1 else 0
def wR (r s:Int):Int:=if s≥r then 0 else r-s
theorem TL {r s t}(hs:0≤s)(ht:0≤t):wR (wR r s) t=wR r (s+t):=by
 unfold wR
 omega
theorem TM {r}(hr:0≤r):wR r 0=r:=by
 unfold wR
 omega
theorem vXs {r s}:0≤wR r s:=by
 unfold wR
 omega
theorem vZl {r s}(hr:0≤r)(hs:0≤s):wR r s≤r:=by
 unfold wR
 omega
section
variable {n:Nat} {p:zF}
theorem vIv (h:yI n p) i:-1099511627776≤gB i p∧gB i p≤1099511627776:=by
 have h1:=h.a1;have h2:=h.a2;unfold gB
 omega
theorem TN (h:yI n p) i j:0≤gS i j p∧gS i j p≤1099511627776:=by
 have h1:=h.a1;have h2:=h.a2
 unfold gS
 omega
theorem L5 (h:yI n p) i:0≤gR i p∧gR i p≤1099511627776:=by
 have h1:=h.a1;have h2:=h.a2
 unfold gR
 omega
end
def vX (n:Nat)(l:List zF):Prop:=(∀p∈l,yI n p)∧l.length≤64
theorem L6 {n l}(h:vX n l) i:-70368744177664≤zP (gB i) l∧zP (gB i) l≤70368744177664:=by
 have h1:=Cu (g:=gB i) (A:=1099511627776) fun p hp=>vIv (h.1 p hp) i
 have h2:=h.2
 omega
theorem sK {n l}(h:vX n l) i j:0≤zP (gS i j) l∧zP (gS i j) l≤70368744177664:=by
 have h1:=Cu (g:=gS i j) (A:=1099511627776) fun p hp=>by have:=TN (h.1 p hp) i j;omega
 have h0:=uO (g:=gS i j) fun p hp=>(TN (h.1 p hp) i j).1
 have h2:=h.2
 omega
theorem yu {n l}(h:vX n l) i:0≤zP (gR i) l∧zP (gR i) l≤70368744177664:=by
 have h1:=Cu (g:=gR i) (A:=1099511627776) fun p hp=>by have:=L5 (h.1 p hp) i;omega
 have h0:=uO (g:=gR i) fun p hp=>(L5 (h.1 p hp) i).1
 have h2:=h.2
 omega
theorem vX.take {n l}(h:vX n l) i:vX n (l.take i):=⟨fun p hp=>h.1 p (by grind),by rw[List.length_take];have:=h.2;omega⟩
structure sL (n:Nat) (a:List qR) (p:EQ) (l:List zF) (a':List qR) (p':EQ):Prop where
 al:a'.length=n
 acct:∀i,i<n→a'.getD i ad=((a.getD i ad).1+zP (gB i) l,(a.getD i ad).2.1,wR (a.getD i ad).2.2 (zP (gR i) l))
 pl:p'.length=n
 pr:∀i,i<n→(p'.getD i []).length=n
 cell:∀i,i<n→∀j,j<n→cell p' i j=cell p i j+zP (gS i j) l-zP (gS j i) l
theorem vPy {n p q}(hp:p.length=n)(hq:q.length=n)(oK:∀i,i<n→(p.getD i []).length=n)(hqr:∀i,i<n→(q.getD i []).length=n)(h:∀i,i<n→∀j,j<n→cell p i j=cell q i j):p=q:=
 Cw [] (by omega) fun i hi=>Cw 0 (by simp_all) fun j hj=>h i (by omega) j (by simp_all)
theorem sL.same {n a a1 a2 p p1 p2 l}(x:sL n a p l a1 p1)(y:sL n a p l a2 p2):a1=a2∧p1=p2:=
 ⟨Cw ad (by rw[x.al,y.al]) fun i hi=>by have:=x.al;rw[x.acct i (by omega),y.acct i (by omega)],
  vPy x.pl y.pl x.pr y.pr fun i hi j hj=>by rw[x.cell i hi j hj,y.cell i hi j hj]⟩
structure L7 (n:Nat) (a:List qR) (p:EQ):Prop where
 al:a.length=n
 pl:p.length=n
 pr:∀i,i<n→(p.getD i []).length=n
 bal:∀i,i<n→-4611686018427387904<(a.getD i ad).1∧(a.getD i ad).1<4611686018427387904
 res:∀i,i<n→0≤(a.getD i ad).2.2∧(a.getD i ad).2.2≤2305843009213693952
 net:∀i,i<n→∀j,j<n→-72057594037927936<cell p i j∧cell p i j<72057594037927936
theorem wL.nums {a b m p}(h:wL a b m p):L7 a.length a p where
 al:=rfl
 pl:=h.pl
 pr:=h.pr
 bal:=fun i hi=>by
  have:=h.acct i hi
  show-4611686018427387904<(a.getD i (0,0,0)).1∧(a.getD i (0,0,0)).1<4611686018427387904
  simp only[eW,aV,aP] at this
  omega
 res:=fun i hi=>by
  have:=h.acct i hi
  show 0≤(a.getD i (0,0,0)).2.2∧(a.getD i (0,0,0)).2.2≤2305843009213693952
  simp only[eW,aV,aP] at this
  omega
 net:=fun i hi j hj=>by
  have:=h.net i hi j hj
  simp[gF] at this
  omega
theorem TO {m f t i j x}(hf:f<m.length)(ht:t<(m.getD f []).length):cell (m.set f ((m.getD f []).set t x)) i j=if i=f∧j=t then x else cell m i j:=by
 unfold cell
 grind
theorem L8 {n}{m:EQ}{f t x}(hm:m.length=n)(hr:∀i,i<n→(m.getD i []).length=n)(hf:f<n):∀i,i<n→((m.set f ((m.getD f []).set t x)).getD i []).length=n:=by
 grind
def CT (p:zF)(r:List qR):List qR:=
 let y0:=r.set p.2.1.toNat (zA ((r.getD p.2.1.toNat ad).1-p.2.2.2.1),(r.getD p.2.1.toNat ad).2)
 let y1:=y0.set p.2.2.1.toNat (zA ((y0.getD p.2.2.1.toNat ad).1+p.2.2.2.1),(y0.getD p.2.2.1.toNat ad).2)
 bif !decide (p.2.2.2.2.1=3) then y1.set p.2.1.toNat ((y1.getD p.2.1.toNat ad).1,((y1.getD p.2.1.toNat ad).2.1,wN false (zA ((y1.getD p.2.1.toNat ad).2.2-p.2.2.2.1)) 0)) else y1
def uR (p:zF)(m:EQ):EQ:=
 let y3:=m.set p.2.1.toNat ((m.getD p.2.1.toNat []).set p.2.2.1.toNat (zA ((m.getD p.2.1.toNat []).getD p.2.2.1.toNat 0+p.2.2.2.1)))
 y3.set p.2.2.1.toNat ((y3.getD p.2.2.1.toNat []).set p.2.1.toNat (zA ((y3.getD p.2.2.1.toNat []).getD p.2.1.toNat 0-p.2.2.2.1)))
theorem vLd p r:(CT p r).length=r.length:=by
 unfold CT
 grind
theorem vY3 {n p}(h:yI n p){r}(hr:r.length=n){i}(hi:i<n)(hb:∀i,i<n→-4611826755915743232<(r.getD i ad).1∧(r.getD i ad).1<4611826755915743232)
  (hz:∀i,i<n→0≤(r.getD i ad).2.2∧(r.getD i ad).2.2≤2305843009213693952):(CT p r).getD i ad=((r.getD i ad).1+gB i p,(r.getD i ad).2.1,wR (r.getD i ad).2.2 (gR i p)):=by
 obtain⟨f0,f1,t0,t1,ne,a1,a2,c1,c3⟩:=h
 obtain⟨f,hf⟩:∃f:Nat,p.2.1=f:=⟨p.2.1.toNat,by omega⟩
 obtain⟨t,ht⟩:∃t:Nat,p.2.2.1=t:=⟨p.2.2.1.toNat,by omega⟩
 have L9:f≠t:=by omega
 have gG:f<n:=by omega
 have gj:t<n:=by omega
 have bf:=hb f gG
 have bt:=hb t gj
 have zf:=hz f gG
 have e1:(r.set f (zA ((r.getD f ad).1-p.2.2.2.1),(r.getD f ad).2)).getD t ad=r.getD t ad:=by rw[jN,if_neg (fun e=>L9 e.1)]
 have key:∀j,j<n→((r.set f (zA ((r.getD f ad).1-p.2.2.2.1),(r.getD f ad).2)).set t (zA ((r.getD t ad).1+p.2.2.2.1),(r.getD t ad).2)).getD j ad=((r.getD j ad).1+gB j p,(r.getD j ad).2):=by
  intro j hj
  unfold gB
  rw[hf,ht,jN]
  by_cases hjt:t=j
  ·subst hjt
   rw[if_pos (by grind),if_pos rfl,if_neg (by omega),zR (by omega) (by omega)]
   simp
  ·rw[if_neg (fun e=>hjt e.1),if_neg (by omega),jN]
   by_cases hjf:f=j
   ·subst hjf
    rw[if_pos ⟨rfl,by omega⟩,if_pos rfl,zR (by omega) (by omega)]
    simp only[Int.zero_sub];rfl
   ·rw[if_neg (fun e=>hjf e.1),if_neg (by omega)]
    simp
 unfold CT
 simp only[hf,ht,ao,e1]
 unfold gR
 cases hc:decide (p.2.2.2.2.1=3) with
 |true=>
  have kM:p.2.2.2.2.1=3:=by simpa using hc
  simp only[aA,ak]
  rw[key i hi,if_neg (fun e=>e.2 kM),TM (hz i hi).1]
 |false=>
  have kM:p.2.2.2.2.1≠3:=by simpa using hc
  simp only[bM,aj]
  rw[jN]
  by_cases hif:f=i
  ·subst hif
   rw[if_pos (by grind),key f gG,if_pos ⟨hf,kM⟩]
   have:wN false (zA ((r.getD f ad).2.2-p.2.2.2.1)) 0=wR (r.getD f ad).2.2 p.2.2.2.1:=by
    rw[zR (by omega) (by omega)]
    unfold wN wR
    grind
   rw[this]
  ·rw[if_neg (fun e=>hif e.1),key i hi,if_neg (by omega),TM (hz i hi).1]
theorem yN8 {n:Nat}{p:zF}(h:yI n p){m:EQ}(hm:m.length=n)(hr:∀i,i<n→(m.getD i []).length=n)(hb:∀i,i<n→∀j,j<n→-72128000000000000<cell m i j∧cell m i j<72128000000000000):
  (uR p m).length=n∧(∀i,i<n→((uR p m).getD i []).length=n)∧∀i,i<n→∀j,j<n→cell (uR p m) i j=cell m i j+gS i j p-gS j i p:=by
 obtain⟨f0,f1,t0,t1,ne,a1,a2,c1,c3⟩:=h
 obtain⟨f,hf⟩:∃f:Nat,p.2.1=f:=⟨p.2.1.toNat,by omega⟩
 obtain⟨t,ht⟩:∃t:Nat,p.2.2.1=t:=⟨p.2.2.1.toNat,by omega⟩
 have L9:f≠t:=by omega
 have gG:f<n:=by omega
 have gj:t<n:=by omega
 unfold uR
 simp only[hf,ht,ao]
 have r1:=L8 (x:=zA ((m.getD f []).getD t 0+p.2.2.2.1)) (t:=t) hm hr gG
 have c1:∀i j,cell (m.set f ((m.getD f []).set t (zA ((m.getD f []).getD t 0+p.2.2.2.1)))) i j=if i=f∧j=t then zA (cell m f t+p.2.2.2.1) else cell m i j:=fun i j=>TO (by omega) (by rw[hr f gG];omega)
 refine⟨by simp only[List.length_set];exact hm,by grind,fun i hi j hj=>?_⟩
 rw[TO (by rw[List.length_set];omega) (by rw[r1 t gj];omega)]
 have e2:((m.set f ((m.getD f []).set t (zA ((m.getD f []).getD t 0+p.2.2.2.1)))).getD t []).getD f 0=cell m t f:=by
  show cell _ t f=_
  simp_all
 rw[e2,c1]
 unfold gS
 rw[hf,ht]
 have b1:=hb f gG t gj
 have b2:=hb t gj f gG
 by_cases h1:i=t∧j=f
 ·obtain⟨rfl,rfl⟩:=h1
  rw[if_pos ⟨rfl,rfl⟩,if_neg (by omega),if_pos ⟨rfl,rfl⟩,zR (by omega) (by omega)]
  omega
 ·rw[if_neg h1]
  by_cases h2:i=f∧j=t
  ·obtain⟨rfl,rfl⟩:=h2
   rw[if_pos ⟨rfl,rfl⟩,if_pos ⟨rfl,rfl⟩,if_neg (by omega),zR (by omega) (by omega)]
   omega
  omega
theorem vFg {k n a b m p l}(hk:l.length<k)(hx:L7 n a p)(hl:vX n l)(b0:List qR) b1 b2 b3:
  ∃a' p',CU k k l l.length 0 b0 b1 b2 b3 a b m p=some (b0,b1,b2,b3,a',b,m,p')∧sL n a p l a' p':=by
 have := yZ (L := fun c i (s : List qR × EQ) => CU k c l l.length i b0 b1 b2 b3 s.1 b m s.2) (N := l.length) (fun s => (b0, b1, b2, b3, s.1, b, m, s.2)) (fun i s => sL n a p (l.take i) s.1 s.2) (fun c s hs=>by
   show CV k _ l l.length l.length b0 b1 b2 b3 s.1 b m s.2=_
   unfold CV
   simp) (fun c i s hi hs=>by
   refine⟨(CT (l.getD i pd) s.1,uR (l.getD i pd) s.2),?_,?_⟩
   ·show CV k _ l l.length i b0 b1 b2 b3 s.1 b m s.2=_
    have bT:yI n (l.getD i pd):=hl.1 _ (jK hi)
    unfold CV CT uR
    have mO:=hl.2
    simp only[qH,qJ hi (by grind),qG,ao,aa hi,aj]
    obtain⟨f0,f1,t0,t1,ne,a1,a2,c1,c3⟩:=bT
    obtain⟨f,hf⟩:∃f:Nat,(l.getD i pd).2.1=f:=⟨(l.getD i pd).2.1.toNat,by omega⟩
    obtain⟨t,ht⟩:∃t:Nat,(l.getD i pd).2.2.1=t:=⟨(l.getD i pd).2.2.1.toNat,by omega⟩
    have gG:f<n:=by omega
    have gj:t<n:=by omega
    have r1:=L8 (x:=zA ((s.2.getD f []).getD t 0+(l.getD i pd).2.2.2.1)) (t:=t) hs.pl hs.pr gG
    simp only[hf,ht,ao,qH,hs.al,hs.pl,List.length_set,hs.pr f gG,r1 t gj,aa gG,aa gj,aj,uS,af]
    grind
   ·have bT:yI n (l.getD i pd):=hl.1 _ (jK hi)
    have aW:=hl.take i
    have hp := yN8 bT hs.pl hs.pr (fun i' bP j' lN=>by
     rw[hs.cell i' bP j' lN]
     have h1:=hx.net i' bP j' lN
     have h2:=sK aW i' j'
     have h3:=sK aW j' i'
     omega)
    refine⟨by rw[vLd];exact hs.al,fun i' bP=>?_,hp.1,hp.2.1,fun i' bP j' lN=>?_⟩
    ·rw [vY3 bT hs.al bP (fun j hj=>by
       rw[hs.acct j hj]
       have h1:=hx.bal j hj
       have h2:=L6 aW j
       dsimp only
       omega) (fun j hj=>by
       rw[hs.acct j hj]
       have h1:=hx.res j hj
       have h2:=yu aW j
       dsimp only
       exact⟨vXs,Int.le_trans (vZl h1.1 h2.1) h1.2⟩),hs.acct i' bP,←ft l i pd hi,lh,lh]
     dsimp only[zP]
     rw[TL (yu aW i').1 (L5 bT i').1,Int.add_zero,Int.add_zero,Int.add_assoc]
    ·rw[hp.2.2 i' bP j' lN,hs.cell i' bP j' lN,←ft l i pd hi,lh,lh]
     dsimp only[zP]
     omega) (s:=(a,p)) hk ⟨hx.al,fun i hi=>by
      rw[List.take_zero]
      show a.getD i ad=((a.getD i ad).1+0,(a.getD i ad).2.1,wR (a.getD i ad).2.2 0)
      rw[TM (hx.res i hi).1,Int.add_zero],hx.pl,hx.pr,fun i hi j hj=>by
      rw[List.take_zero]
      show cell p i j=cell p i j+0-0
      omega⟩
 simp_all
theorem TP {k n l}(hk:l.length<k)(hl:vX n l)(i j:Nat):uT k l i j=some (zP (gS i j) l):=by
 have mO:=hl.2
 obtain ⟨s, h1, h2⟩ := yZ (L := fun c x (s : Int) => H3 k c l i j s x) (N := l.length) (fun s => s) (fun x s => s = zP (gS i j) (l.take x)) (fun c s hs=>by
   show CW k _ l i j s l.length=_
   unfold CW
   simp) (fun c x s hx hs=>by
   refine⟨zP (gS i j) (l.take (x+1)),?_,rfl⟩
   show CW k _ l i j s x=_
   have hb:=sK (hl.take x) i j
   have hm:yI n (l.getD x pd):=hl.1 _ (by grind)
   have e:zP (gS i j) (l.take (x+1))=s+gS i j (l.getD x pd):=by
    rw[←ft l x pd hx,lh,hs]
    show _+(_+0)=_
    omega
   have w:=zR (x:=s+(l.getD x pd).2.2.2.1) (by have:=hm.a1;omega) (by have:=hm.a2;omega)
   unfold CW
   simp[qH,qJ hx (by grind)]
   rw[e]
   unfold gS
   grind) (s:=0) hk rfl
 unfold uT
 simp_all
theorem vS9 {k n l}(hk:l.length<k)(hl:vX n l)(i j:Nat):Ma k l i j=some (zP (gS i j) l-zP (gS j i) l):=by
 unfold Ma
 rw[TP hk hl i j,TP hk hl j i]
 have h1:=sK hl i j
 have h2:=sK hl j i
 simp
 rw[zR (by omega) (by omega)]
def gN (i:Nat)(p:zF):Int:=if p.2.1=i∧p.2.2.2.2.1=3 then p.2.2.2.1 else 0
theorem Mb {n p}(h:yI n p) i:0≤gN i p∧gN i p≤1099511627776:=by
 have h1:=h.a1;have h2:=h.a2
 unfold gN
 omega
theorem yM4 {n l}(h:vX n l) i:0≤zP (gN i) l∧zP (gN i) l≤70368744177664:=by
 have h1:=Cu (g:=gN i) (A:=1099511627776) fun p hp=>by have:=Mb (h.1 p hp) i;omega
 have h0:=uO (g:=gN i) fun p hp=>(Mb (h.1 p hp) i).1
 have h2:=h.2
 omega
theorem yLa {k n:Nat}{l}(hk:l.length<k)(hl:vX n l)(i:Nat):H4 k l i=some (zP (gN i) l,zP (gR i) l):=by
 have mO:=hl.2
 obtain ⟨s, h1, h2⟩ := yZ (L := fun c x (s : Int × Int) => H5 k c l i s.1 s.2 x) (N := l.length) (fun s => s) (fun x s => s = (zP (gN i) (l.take x), zP (gR i) (l.take x))) (fun c s hs=>by
   show CX k _ l i s.1 s.2 l.length=_
   unfold CX
   simp) (fun c x s hx hs=>by
   refine⟨(zP (gN i) (l.take (x+1)),zP (gR i) (l.take (x+1))),?_,rfl⟩
   show CX k _ l i s.1 s.2 x=_
   have hb:=yM4 (hl.take x) i
   have bz:=yu (hl.take x) i
   have hm:yI n (l.getD x pd):=hl.1 _ (by grind)
   have e:zP (gN i) (l.take (x+1))=s.1+gN i (l.getD x pd):=by
    rw[←ft l x pd hx,lh,hs]
    show _+(_+0)=_
    omega
   have e':zP (gR i) (l.take (x+1))=s.2+gR i (l.getD x pd):=by
    rw[←ft l x pd hx,lh,hs]
    show _+(_+0)=_
    omega
   have w:=zR (x:=s.1+(l.getD x pd).2.2.2.1) (by have:=hm.a1;grind) (by have:=hm.a2;grind)
   have w':=zR (x:=s.2+(l.getD x pd).2.2.2.1) (by have:=hm.a1;rw[hs];omega) (by have:=hm.a2;grind)
   unfold CX
   simp only[qH,qJ hx (by grind),qG,aj]
   rw[e,e']
   unfold gN gR
   grind) (s:=(0,0)) hk rfl
 unfold H4
 simp_all
theorem vM9 {k n l}(hk:l.length<k)(hl:vX n l)(i:Nat):Md k l i=some (zP (gR i) l):=by
 unfold Md
 rw[yLa hk hl i]
 rfl
theorem yHi k b c r s (h:-9223372036854775808≤r-s)(h':r<9223372036854775808)(hs:0≤s):CY k b c r s=some (wR r s):=by
 unfold CY wR
 by_cases e:s≥r
 ·simp_all
 ·rw[ab e,if_neg e,zR h (by omega)];rfl
theorem yEe {n l}(hl:∀p∈l,yI n p) i (hi:i<n):qK (fun j=>zP (gS i j) l-zP (gS j i) l) n= -zP (gB i) l:=by
 have e1:qK (fun j=>zP (gS i j) l-zP (gS j i) l) n=qK (fun j=>zP (fun p=>gS i j p-gS j i p) l) n:=oH fun j _=>(Th _ _ l).symm
 rw[e1,LP (fun j p=>gS i j p-gS j i p)]
 have e2:∀p∈l,qK (fun j=>gS i j p-gS j i p) n=0-gB i p:=by
  intro p hp
  obtain⟨f0,f1,t0,t1,ne,a1,a2,c1,c3⟩:=hl p hp
  obtain⟨f,hf⟩:∃f:Nat,p.2.1=f:=⟨p.2.1.toNat,by omega⟩
  obtain⟨t,ht⟩:∃t:Nat,p.2.2.1=t:=⟨p.2.2.1.toNat,by omega⟩
  have g1:∀j,gS i j p-gS j i p=(if j=t then(if f=i then p.2.2.2.1 else 0) else 0)+(if j=f then(if t=i then-p.2.2.2.1 else 0) else 0):=by
   unfold gS
   omega
  rw[oH fun j _=>g1 j,Cv,yq,yq]
  unfold gB
  omega
 rw[LO e2,Th]
 have:zP (fun _:zF=>(0:Int)) l=0:=by
  clear e1 e2 hl
  induction l with
  |nil=>rfl
  |cons p l ih=>show 0+zP _ l=0;omega
 omega
structure vTd (n:Nat) (a:List qR) (p:EQ) (l:List zF) (i:Nat) (a':List qR) (p':EQ):Prop where
 al:a'.length=n
 done:∀x,x<n→x<i→a'.getD x ad=((a.getD x ad).1+zP (gB x) l,(a.getD x ad).2.1,wR (a.getD x ad).2.2 (zP (gR x) l))
 rest:∀x,x<n→¬x<i→a'.getD x ad=a.getD x ad
 pl:p'.length=n
 pr:∀x,x<n→(p'.getD x []).length=n
 cell:∀x,x<n→∀y,y<n→cell p' x y=if x<i then cell p x y+zP (gS x y) l-zP (gS y x) l else cell p x y
structure TQ (n:Nat) (a:List qR) (p:EQ) (l:List zF) (i j:Nat) (a':List qR) (p':EQ):Prop where
 al:a'.length=n
 done:∀x,x<n→x<i→a'.getD x ad=((a.getD x ad).1+zP (gB x) l,(a.getD x ad).2.1,wR (a.getD x ad).2.2 (zP (gR x) l))
 here:a'.getD i ad=((a.getD i ad).1-qK (fun j=>zP (gS i j) l-zP (gS j i) l) j,(a.getD i ad).2.1,wR (a.getD i ad).2.2 (zP (gR i) l))
 rest:∀x,x<n→i<x→a'.getD x ad=a.getD x ad
 pl:p'.length=n
 pr:∀x,x<n→(p'.getD x []).length=n
 cell:∀x,x<n→∀y,y<n→cell p' x y=if x<i∨(x=i∧y<j) then cell p x y+zP (gS x y) l-zP (gS y x) l else cell p x y
theorem vDp {k n a p l}(hk:n<k)(bI:l.length<k)(hn:n≤1000)(hx:L7 n a p)(hl:vX n l){i}(hi:i<n)(b0:List qR) b1 b2 b3 b m
  {a0 p0} (h0:TQ n a p l i 0 a0 p0):∃a' p',CZ k k l i 0 b0 b1 b2 b3 a0 b m p0=some (l,(i:Int),b0,b1,b2,b3,a',b,m,p')∧TQ n a p l i n a' p':=by
 obtain ⟨s, h1, h2⟩ := yZ (L := fun c j (s : List qR × EQ) => CZ k c l i j b0 b1 b2 b3 s.1 b m s.2) (N := n) (fun s => (l, (i : Int), b0, b1, b2, b3, s.1, b, m, s.2)) (fun j s => TQ n a p l i j s.1 s.2) (fun c s hs=>by
   show C3 k _ l i n b0 b1 b2 b3 s.1 b m s.2=_
   unfold C3
   simp only [qG, hs.al, ab (Nat.lt_irrefl _), ak]) (fun c j s hj hs=>by
   refine⟨(s.1.set i (zA ((s.1.getD i ad).1-(zP (gS i j) l-zP (gS j i) l)),(s.1.getD i ad).2),s.2.set i ((s.2.getD i []).set j (zA ((s.2.getD i []).getD j 0+(zP (gS i j) l-zP (gS j i) l))))),?_,?_⟩
   ·show C3 k _ l i j b0 b1 b2 b3 s.1 b m s.2=_
    unfold C3
    simp only[qH,qJ hj (by grind),qG,ao,hs.al,hs.pl,hs.pr i hi,aa hi,aa hj,aj,vS9 bI hl,af]
   ·have hb:=hx.bal i hi
    have hg:∀j,-70368744177664≤zP (gS i j) l-zP (gS j i) l∧zP (gS i j) l-zP (gS j i) l≤70368744177664:=fun j=>by
     have h1:=sK hl i j
     have h2:=sK hl j i
     omega
    have BZ:=uP hg j
    have Co:=hg j
    have oM:=hx.net i hi j hj
    have hc:=hs.cell i hi j hj
    rw[if_neg (by omega)] at hc
    refine⟨by simp only[List.length_set];exact hs.al,fun x iQ uU=>?_,?_,fun x iQ uU=>?_,by simp only[List.length_set];exact hs.pl,L8 hs.pl hs.pr hi,fun x iQ y H6=>?_⟩
    ·rw[jN,if_neg (by grind)]
     exact hs.done x iQ uU
    ·rw[jN,if_pos ⟨rfl,by rw[hs.al];exact hi⟩,hs.here]
     dsimp only
     rw[zR (by omega) (by omega)]
     show(_,_)=((a.getD i ad).1-(qK _ j+_),_)
     grind
    ·rw[jN,if_neg (by grind)]
     exact hs.rest x iQ uU
    ·have e:(s.2.getD i []).getD j 0=cell p i j:=hc
     rw[TO (by rw[hs.pl];exact hi) (by rw[hs.pr i hi];exact hj),e]
     by_cases Me:x=i∧y=j
     ·obtain⟨rfl,rfl⟩:=Me
      rw[if_pos ⟨rfl,rfl⟩,if_pos (by omega),zR (by omega) (by omega)]
      omega
     ·rw[if_neg Me,hs.cell x iQ y H6]
      omega) (s:=(a0,p0)) hk h0
 grind
theorem TR {k n a b m p l}(hk:n<k)(bI:l.length<k)(hn:n≤1000)(hx:L7 n a p)(hl:vX n l)(b0:List qR) b1 b2 b3:
  ∃a' p',C4 k k l 0 b0 b1 b2 b3 a b m p=some (b0,b1,b2,b3,a',b,m,p')∧sL n a p l a' p':=by
 obtain ⟨s, h1, h2⟩ := yZ (L := fun c i (s : List qR × EQ) => C4 k c l i b0 b1 b2 b3 s.1 b m s.2) (N := n) (fun s => (b0, b1, b2, b3, s.1, b, m, s.2)) (fun i s => vTd n a p l i s.1 s.2) (fun c s hs=>by
   show C5 k _ l n b0 b1 b2 b3 s.1 b m s.2=_
   unfold C5
   simp only [qG, hs.al, ab (Nat.lt_irrefl _), ak]) (fun c i s hi hs=>by
   have hai:=hs.rest i hi (by simp)
   have hr:=hx.res i hi
   have hsp:=yu hl i
   obtain⟨a',p',h1,h2⟩:=vDp (a0:=s.1.set i ((s.1.getD i ad).1,((s.1.getD i ad).2.1,wR (s.1.getD i ad).2.2 (zP (gR i) l)))) (p0:=s.2) hk bI hn hx hl hi b0 b1 b2 b3 b m ⟨by rw[List.length_set];exact hs.al,fun x iQ uU=>by
     rw[jN,if_neg (by grind)];exact hs.done x iQ uU,by
     rw[jN,if_pos ⟨rfl,by rw[hs.al];exact hi⟩,hai]
     show _=((a.getD i ad).1-0,_,_)
     simp,fun x iQ uU=>by
     rw[jN,if_neg (by grind)];exact hs.rest x iQ (by omega),hs.pl,hs.pr,fun x iQ y H6=>by
     rw[hs.cell x iQ y H6]
     omega⟩
   refine⟨(a',p'),?_,?_⟩
   ·show C5 k _ l i b0 b1 b2 b3 s.1 b m s.2=_
    unfold C5
    have hK:=yHi k (s.1.getD i ad).1 (s.1.getD i ad).2.1 (s.1.getD i ad).2.2 (zP (gR i) l) (by grind) (by grind) hsp.1
    simp only[qH,qG,ao,hs.al,aa hi,aj,vM9 bI hl,af]
    rw[hK]
    simp only[af]
    rw[h1]
    simp only[af,qJ hi (by grind)]
   ·refine⟨h2.al,fun x iQ uU=>?_,fun x iQ uU=>h2.rest x iQ (by omega),h2.pl,h2.pr,fun x iQ y H6=>?_⟩
    ·by_cases h:x<i
     ·exact h2.done x iQ h
     ·have:x=i:=by omega
      subst this
      rw[h2.here,yEe hl.1 x iQ]
      simp
    ·rw[h2.cell x iQ y H6]
     omega) (s:=(a,p)) hk ⟨hx.al,by simp,by simp,hx.pl,hx.pr,by simp⟩
 exact⟨s.1,s.2,h1,h2.al,fun i hi=>h2.done i hi hi,h2.pl,h2.pr,fun i hi j hj=>by rw[h2.cell i hi j hj,if_pos hi]⟩
def qh (a:List qR)(b:EQ)(m:AC)(p:EQ)(l:List zF)(r:List qR×EQ×AC×EQ×Int):Prop:=
 (vX a.length l→∃a' p',sL a.length a p l a' p'∧r=(bif lW a' b m p' then(a',b,m,p',0) else(a,b,m,p,8)))∧(¬vX a.length l→r=(a,b,m,p,1))
theorem Mh {k}(hk:100<k){a b m p}{l:List zF}(h:wL a b m p)(hl:l.length≤80):∃r,oN k a b m p l=some r∧qh a b m p l r:=by
 unfold oN qh
 have e:decide (((l.length:Nat):Int)>64)=decide (¬l.length≤64):=by
  grind
 rw[e]
 by_cases bY:l.length≤64
 case neg=>
  rw[aa bY]
  exact⟨_,rfl,fun e=>absurd e.2 bY,by simp⟩
 rw[ab (by omega),vIj (by omega) (by omega)]
 cases hm:mN a.length l with
 |false=>
  refine⟨_,rfl,fun e=>?_,by simp⟩
  rw[yt.2 e.1] at hm
  cases hm
 |true=>
  have aW:vX a.length l:=⟨yt.1 hm,bY⟩
  simp only[HT (show 10<k by omega) h.toSized,af]
  obtain⟨a',p',h1,h2⟩:=vFg (b:=b) (m:=m) (show l.length<k by omega) h.nums aW a b m p
  rw[h1]
  simp only[af,vJ8 (show 10<k by omega)]
  cases hB:lW a' b m p' with
  |true=>exact⟨_,rfl,by grind,by grind⟩
  |false=>exact⟨_,rfl,by grind,by grind⟩
theorem vQ6 {k}(hk:100<k){a b m p}{l:List zF}(h:wL a b m p)(hl:l.length≤80):∃r,yv k a b m p l=some r∧qh a b m p l r:=by
 unfold yv qh
 rw[yDl (by omega) (by omega)]
 cases hm:mN a.length l with
 |false=>
  refine⟨_,rfl,fun e=>?_,by simp⟩
  rw[yt.2 e.1] at hm
  cases hm
 |true=>
  by_cases bY:l.length≤64
  case neg=>
   rw[ab bY]
   exact⟨_,rfl,fun e=>absurd e.2 bY,by simp⟩
  have aW:vX a.length l:=⟨yt.1 hm,bY⟩
  have h6:=h.n6
  rw[aa bY]
  simp only[HS (show 10<k by omega) h.toSized,af]
  obtain⟨a',p',h1,h2⟩:=TR (b:=b) (m:=m) (show a.length<k by omega) (by grind) (by omega) h.nums aW a b m p
  rw[h1]
  simp only[af,vQ9 (show 10<k by omega)]
  cases hB:lW a' b m p' with
  |true=>exact⟨_,rfl,by grind,by grind⟩
  |false=>exact⟨_,rfl,by grind,by grind⟩
theorem qh.same {a b m p l r r'}(h:qh a b m p l r)(h':qh a b m p l r'):r=r':=by
 by_cases c:vX a.length l
 ·obtain⟨a1,p1,x,rfl⟩:=h.1 c
  obtain⟨a2,p2,y,rfl⟩:=h'.1 c
  obtain⟨rfl,rfl⟩:=x.same y
  rfl
 ·rw[h.2 c,h'.2 c]
theorem Mi {a b m p l r}(hb:wL a b m p)(h:qh a b m p l r):
  qK (fun i=>(r.1.getD i ad).1) a.length=qK (fun i=>(a.getD i ad).1) a.length∧wL r.1 r.2.1 r.2.2.1 r.2.2.2.1∧(r.2.2.2.2=0∨(r.1=a∧r.2.1=b∧r.2.2.1=m∧r.2.2.2.1=p)):=by
 by_cases c:vX a.length l
 ·obtain⟨a',p',x,e⟩:=h.1 c
  cases hi:lW a' b m p' with
  |false=>
   simp_all
  |true=>
   rw[hi] at e
   subst e
   refine⟨?_,TB.1 hi,.inl rfl⟩
   have e1:qK (fun i=>(a'.getD i ad).1) a.length=qK (fun i=>(a.getD i ad).1+zP (gB i) l) a.length:=oH fun j hj=>by rw[x.acct j hj]
   show qK (fun i=>(a'.getD i ad).1) a.length=_
   rw[e1,Cv,LP]
   have e2:zP (fun p=>qK (fun j=>gB j p) a.length) l=zP (fun _=>(0:Int)) l:=LO fun p hp=>by
    obtain⟨f0,f1,t0,t1,ne,a1,a2,c1,c3⟩:=c.1 p hp
    obtain⟨f,hf⟩:∃f:Nat,p.2.1=f:=⟨p.2.1.toNat,by omega⟩
    obtain⟨t,ht⟩:∃t:Nat,p.2.2.1=t:=⟨p.2.2.1.toNat,by omega⟩
    have g1:∀j,gB j p=(if j=t then p.2.2.2.1 else 0)+(if j=f then-p.2.2.2.1 else 0):=by
     unfold gB
     omega
    rw[oH fun j _=>g1 j,Cv,yq,yq,if_pos (by omega),if_pos (by omega)]
    omega
   have e3:∀l:List zF,zP (fun _:zF=>(0:Int)) l=0:=by
    intro l
    induction l with
    |nil=>rfl
    |cons p l ih=>show 0+zP _ l=0;omega
   simp_all
 ·have e:=h.2 c
  simp_all
theorem vJn {k n i p}(hk:n<k)(hn:n≤100)(hi:i<n)(hp:p.length=n)(hr:(p.getD i []).length=n)(hb:∀j,-72057594037927936≤cell p i j∧cell p i j≤72057594037927936)(a:List qR) b m:
  Mj k a b m p i=some (qK (cell p i) n):=by
 obtain ⟨s, h1, h2⟩ := yZ (L := fun c j (s : Int) => C6 k c i s j a b m p) (N := n) (fun s => s) (fun j s => s = qK (cell p i) j) (fun c s hs=>by
   show C7 k _ i s n a b m p=_
   unfold C7
   simp only [qH, qG, ao, hp, hr, aa hi, ab (Nat.lt_irrefl _), ak, aj]) (fun c j s hj hs=>by
   refine⟨qK (cell p i) (j+1),?_,rfl⟩
   show C7 k _ i s j a b m p=_
   have h1:=uP hb j
   have h2:=hb j
   unfold C7
   simp only[qH,qJ hj (by grind),qG,ao,hp,hr,aa hi,aa hj]
   show C6 k c i (zA (s+cell p i j)) _ a b m p=_
   rw[hs,zR (by omega) (by omega)]
   rfl) (s:=0) hk rfl
 unfold Mj
 simp_all
theorem Mk {a b m p}(hb:wL a b m p){i}(hi:i<a.length) j:-72057594037927936≤cell p i j∧cell p i j≤72057594037927936:=by
 by_cases hj:j<a.length
 ·have:=hb.net i hi j hj
  simp[gF] at this
  omega
 ·have:cell p i j=0:=by
   unfold cell
   rw[List.getD_eq_getElem?_getD,List.getElem?_eq_none]
   ·rfl
   ·rw[hb.pr i hi];omega
  omega
theorem Mm {S X:Type}{L:Nat→Int→S→Option X}{N:Nat}(ok:Nat→Bool)(e:S→X)(b:X)(inv:Nat→S→Prop)(bF:∀n s,inv N s→L (n+1) (N:Int) s=some (e s))
  (aM:∀n i s,i<N→inv i s→(ok i=true→∃s',L (n+1) (i:Int) s=L n ((i+1:Nat):Int) s'∧inv (i+1) s')∧(ok i=false→L (n+1) (i:Int) s=some b)):
  ∀c i n s,i+c=N→c<n→inv i s→(qI ok c i=true∧∃s',L n (i:Int) s=some (e s')∧inv N s')∨(qI ok c i=false∧L n (i:Int) s=some b)
 |0,i,n,s,h,hn,hs=>by
  obtain⟨n,rfl⟩:∃m,n=m+1:=⟨n-1,by omega⟩
  have:i=N:=by omega
  subst this
  exact .inl ⟨rfl,s,bF n s hs,hs⟩
 |c+1,i,n,s,h,hn,hs=>by
  obtain⟨n,rfl⟩:∃m,n=m+1:=⟨n-1,by omega⟩
  obtain⟨h1,h2⟩:=aM n i s (by omega) hs
  unfold qI
  cases ho:ok i with
  |true=>
   obtain⟨s',h3,h4⟩:=h1 ho
   rw[h3]
   simp only[Bool.true_and]
   exact Mm ok e b inv bF aM c (i+1) n s' (by omega) (by omega) h4
  |false=>exact .inr ⟨rfl,h2 ho⟩
def dS (l:List zF)(i j:Nat):Int:=zP (gS i j) l-zP (gS j i) l
def sM (b p:EQ)(l:List zF)(i j:Nat):Bool:= !(decide (zP (gS i j) l>0)&&(!decide (cell b i j= -1)&&decide (cell p i j+dS l i j>cell b i j)))
def fu (a:List qR)(b:EQ)(m:AC)(p:EQ)(l:List zF)(i:Nat):Bool:=
 !decide (zP (gN i) l + zP (gR i) l = 0) && (!qI (sM b p l i) a.length 0 || (decide ((a.getD i ad).1+(a.getD i ad).2.1+zP (gB i) l<0)||
  ((decide (zP (gN i) l>0)&&decide ((a.getD i ad).1+(a.getD i ad).2.1+zP (gB i) l<wR (a.getD i ad).2.2 (zP (gR i) l)))||
   (!decide (m.getD i 0= -1)&&decide (qK (cell p i) a.length-zP (gB i) l>m.getD i 0)))))
theorem C8 {n:Nat}{l:List zF}(hl:vX n l)(i j:Nat):-70368744177664≤dS l i j∧dS l i j≤70368744177664:=by
 have h1:=sK hl i j
 have h2:=sK hl j i
 unfold dS
 omega
theorem vJ3 {k:Nat}{a:List qR}{b:EQ}{m:AC}{p:EQ}{l:List zF}(hk:100<k)(hb:wL a b m p)(hl:vX a.length l){i:Nat}(hi:i<a.length)(x y n0 dH:Int)
  (GI:-6917529027641081856≤n0∧n0≤6917529027641081856) (oM:-576460752303423488≤dH∧dH≤576460752303423488):
  qi k k l i x y n0 dH 0 a b m p=some (bif qI (sM b p l i) a.length 0 then .inl ((i:Int),x,y,n0-qK (dS l i) a.length,dH+qK (dS l i) a.length,a,b,m,p) else .inr true):=by
 have h6:=hb.n6
 have bI:l.length<k:=by have:=hl.2;omega
 have := Mm (L := fun c j (s : Int × Int) => qi k c l i x y s.1 s.2 j a b m p) (N := a.length) (sM b p l i) (fun s => .inl ((i : Int), x, y, s.1, s.2, a, b, m, p)) (.inr true) (fun j s => s = (n0 - qK (dS l i) j, dH + qK (dS l i) j)) (fun c s hs=>by
   show C9 k _ l i x y s.1 s.2 a.length a b m p=_
   unfold C9
   simp only [qG, ab (Nat.lt_irrefl _), ak]) (fun c j s hj hs=>by
   have BZ:=uP (fun j=>C8 hl i j) j
   have Co:=C8 hl i j
   have hj1:(j:Int)*70368744177664≤6*70368744177664:=by omega
   have oM:=hb.nums.net i hi j hj
   have e1:qi k (c+1) l i x y s.1 s.2 j a b m p=bif sM b p l i j then qi k c l i x y (n0-qK (dS l i) (j+1)) (dH+qK (dS l i) (j+1)) ((j+1:Nat):Int) a b m p else some (.inr true):=by
    show C9 k _ l i x y s.1 s.2 j a b m p=_
    unfold C9
    simp only[qH,qJ hj (show a.length<9223372036854775808 by omega),qG,ao,aa hi,aa hj,aj,TP bI hl,af,hb.bl,hb.br i hi,hb.pl,hb.pr i hi]
    have ed:zA (zP (gS i j) l-zP (gS j i) l)=dS l i j:=zR (by have:=Co.1;unfold dS at this;omega) (by have:=Co.2;unfold dS at this;omega)
    rw[ed]
    have e2:zA (s.1-dS l i j)=n0-qK (dS l i) (j+1):=by
     rw[hs]
     show zA (n0-qK (dS l i) j-dS l i j)=n0-(qK (dS l i) j+dS l i j)
     rw[zR (by omega) (by omega)]
     omega
    have e3:zA (s.2+dS l i j)=dH+qK (dS l i) (j+1):=by
     rw[hs]
     show zA (dH+qK (dS l i) j+dS l i j)=dH+(qK (dS l i) j+dS l i j)
     rw[zR (by omega) (by omega)]
     omega
    rw[e2,e3]
    show(bif decide (zP (gS i j) l>0) then(bif !decide (cell b i j= -1) then(bif decide (zA (cell p i j+dS l i j)>cell b i j) then _ else _) else _) else _)=_
    rw[zR (x:=cell p i j+dS l i j) (by omega) (by omega)]
    unfold sM
    cases decide (zP (gS i j) l>0)<;>cases decide (cell b i j= -1)<;>cases decide (cell p i j+dS l i j>cell b i j)<;>rfl
   refine⟨fun ho=>⟨_,?_,rfl⟩,fun ho=>?_⟩
   ·rw[e1,ho];rfl
   ·rw [e1, ho]; rfl) a.length 0 k (n0, dH) (by omega) (by omega) (by
    show(n0,dH)=(n0-0,dH+0)
    rw[Int.sub_zero,Int.add_zero])
 rcases this with⟨h1,s,h2,h3⟩|⟨h1,h2⟩
 ·have Mn:qi k k l i x y n0 dH 0 a b m p=_:=h2
  rw[Mn,h1,h3]
  rfl
 ·have Mn:qi k k l i x y n0 dH 0 a b m p=_:=h2
  rw[Mn,h1]
  rfl
theorem yNn {n:Nat}{l:List zF}(hl:∀p∈l,yI n p)(i:Nat)(hi:i<n):qK (dS l i) n= -zP (gB i) l:=yEe hl i hi
theorem yQx {k:Nat}{a:List qR}{b:EQ}{m:AC}{p:EQ}{l:List zF}(hk:100<k)(hb:wL a b m p)(hl:vX a.length l){i:Nat}(hi:i<a.length):Mo k a b m p l i=some (fu a b m p l i):=by
 have h6:=hb.n6
 have bI:l.length<k:=by have:=hl.2;omega
 have hN:=yM4 hl i
 have hR:=yu hl i
 have hB:=L6 hl i
 have hx:=hb.acct i hi
 simp only[eW,aV,aP] at hx
 have yw:-4611686018427387904<(a.getD i ad).1∧(a.getD i ad).1<4611686018427387904∧0≤(a.getD i ad).2.1∧(a.getD i ad).2.1≤2305843009213693952∧0≤(a.getD i ad).2.2∧(a.getD i ad).2.2≤2305843009213693952:=⟨hx.1,hx.2.1,hx.2.2.1,hx.2.2.2.1,hx.2.2.2.2.1,hx.2.2.2.2.2⟩
 have oM:=uP (Mk hb hi) a.length
 have GM:(a.length:Int)*72057594037927936≤6*72057594037927936:=by omega
 unfold Mo
 rw[yLa bI hl]
 simp only[af]
 rw[zR (x:=zP (gN i) l+zP (gR i) l) (by omega) (by omega)]
 unfold fu
 cases hz:decide (zP (gN i) l+zP (gR i) l=0) with
 |true=>rfl
 |false=>
  rw[qH,aa hi]
  simp only[aj,ak,ao]
  rw[vJn (by omega) (by omega) hi hb.pl (hb.pr i hi) (Mk hb hi)]
  simp only[af]
  rw[zR (x:=(a.getD i (0,(0,0))).1+(a.getD i (0,(0,0))).2.1) (by omega) (by omega)]
  rw[vJ3 hk hb hl hi _ _ _ _ (by omega) (by omega),yNn hl.1 i hi]
  simp only[Int.sub_neg]
  cases qI (sM b p l i) a.length 0 with
  |false=>rfl
  |true=>
   have hK:=yHi k (a.getD i ad).1 (a.getD i ad).2.1 (a.getD i ad).2.2 (zP (gR i) l) (by omega) (by omega) hR.1
   simp only[aj,af,bM,aA,Bool.true_and,Bool.false_or,qH,ao,aa hi,hb.ml]
   show(bif decide ((a.getD i ad).1+(a.getD i ad).2.1+zP (gB i) l<0) then _ else bif decide (zP (gN i) l>0) then(CY k (a.getD i ad).1 (a.getD i ad).2.1 (a.getD i ad).2.2 (zP (gR i) l)).bind _ else _)=_
   rw[hK]
   simp only[af]
   have en:qK (cell p i) a.length+-zP (gB i) l=qK (cell p i) a.length-zP (gB i) l:=by omega
   rw[en]
   cases decide ((a.getD i ad).1+(a.getD i ad).2.1+zP (gB i) l<0)<;>cases decide (zP (gN i) l>0)<;>cases decide ((a.getD i ad).1+(a.getD i ad).2.1+zP (gB i) l<wR (a.getD i ad).2.2 (zP (gR i) l))<;>cases decide (m.getD i 0= -1)<;>rfl
theorem vZo {k:Nat}{a:List qR}{b:EQ}{m:AC}{p:EQ}{l:List zF}(hk:100<k)(hb:wL a b m p)(hl:vX a.length l):∃r,sN k a b m p l=some r∧(r=[]↔qI (fun i=> !fu a b m p l i) a.length 0=true):=by
 have h6:=hb.n6
 obtain ⟨r, h1, h2⟩ := yZ (L := fun c i (r : AC) => sO k c l i a b m p r) (N := a.length) (fun r => r) (fun i r => (r = [] ↔ ∀ j, j < i → fu a b m p l j = false) ∧ r.length ≤ i) (fun c r hr=>by
   show ql k _ l a.length a b m p r=_
   unfold ql
   simp only [qG, ab (Nat.lt_irrefl _), ak]) (fun c i r hi hr=>by
   have aU:zO (r.length+1) 8=true:=qT (by omega) (by omega)
   have e:sO k (c+1) l i a b m p r=sO k c l ((i+1:Nat):Int) a b m p (bif fu a b m p l i then r++[(i:Int)] else r):=by
    show ql k _ l i a b m p r=_
    unfold ql
    simp only[qJ hi (show a.length<9223372036854775808 by omega),qG,aa hi,aj,yQx hk hb hl hi,af,aU]
    cases fu a b m p l i<;>rfl
   refine⟨_,e,?_⟩
   cases hs:fu a b m p l i with
   |true=>
    refine⟨⟨fun h=>?_,fun h=>?_⟩,by simp only[aj,List.length_append,List.length_cons,List.length_nil];omega⟩
    ·simp at h
    ·rw[h i (Nat.lt_succ_self i)] at hs;cases hs
   |false=>
    refine⟨⟨fun h j hj=>?_,fun h=>?_⟩,by simp only[ak];omega⟩
    ·by_cases c:j=i
     ·subst c;exact hs
     ·exact hr.1.1 h j (by omega)
    ·exact hr.1.2 fun j hj=>h j (by omega)) (s:=[]) (show a.length<k by omega) ⟨⟨fun _ j hj=>absurd hj (Nat.not_lt_zero j),fun _=>rfl⟩,Nat.le_refl 0⟩
 unfold sN
 rw[h1]
 refine⟨r,rfl,h2.1.trans ?_⟩
 rw[gi]
 exact⟨fun h j hj=>by rw[h j hj];rfl,fun h j hj=>by have:=h j hj;simpa using this⟩
def uV (a:List qR)(b:EQ)(m:AC)(p:EQ)(l:List zF):Bool:=(mN a.length l&&decide (l.length≤64))&&qI (fun i=> !fu a b m p l i) a.length 0
theorem TS {k:Nat}{a:List qR}{b:EQ}{m:AC}{p:EQ}{l:List zF}(hk:100<k)(hb:wL a b m p)(hl:l.length≤80):H7 k a b m p l=some (uV a b m p l):=by
 unfold H7 uV
 rw[yDl (by omega) (by omega)]
 simp only[af]
 cases hm:(mN a.length l&&decide (l.length≤64)) with
 |false=>rfl
 |true=>
  simp only[aV,aP] at hm
  obtain⟨r,h1,h2⟩:=vZo hk hb ⟨yt.1 hm.1,hm.2⟩
  simp only[aj,h1,af,Bool.true_and]
  congr 1
  cases hr:qI (fun i=> !fu a b m p l i) a.length 0 with
  |true=>
   have:=h2.2 hr
   subst this
   rfl
  |false=>
   apply ab
   intro h
   have:r=[]:=List.length_eq_zero_iff.1 (by omega)
   rw[h2.1 this] at hr
   cases hr
theorem vQc {k n i p}(hk:n<k)(hn:n≤100)(hi:i<n)(hp:p.length=n)(hr:(p.getD i []).length=n)(hb:∀j,-72057594037927936≤cell p i j∧cell p i j≤72057594037927936)(a:List qR) b m:
  Mp k a b m p i=some (qK (cell p i) n):=by
 obtain ⟨s, h1, h2⟩ := yZ (L := fun c j (s : Int) => Da k c s (p.getD i []) n j) (N := n) (fun s => s) (fun j s => s = qK (cell p i) j) (fun c s hs=>by
   show Db k _ s (p.getD i []) n n=_
   unfold Db
   simp) (fun c j s hj hs=>by
   refine⟨qK (cell p i) (j+1),?_,rfl⟩
   show Db k _ s (p.getD i []) n j=_
   have h1:=uP hb j
   have h2:=hb j
   unfold Db
   simp only[qH,qJ hj (by grind),qG,hr,aa hj]
   show Da k c (zA (s+cell p i j)) _ _ _=_
   rw[hs,zR (by omega) (by omega)]
   rfl) (s:=0) hk rfl
 unfold Mp
 simp[qH]
 simp_all
theorem yU3 k {n:Nat}(hn:n≤6):H8 k n=some true:=by
 unfold H8
 grind
theorem yO5 {α:Type}(v z:α) n i (hi:i<n):(List.replicate i v++List.replicate (n-i) z).set i v=List.replicate (i+1) v++List.replicate (n-(i+1)) z:=by
 have e:List.replicate (n-i) z=z::List.replicate (n-(i+1)) z:=by
  rw[show n-i=(n-(i+1))+1 by omega];rfl
 rw[List.set_append_right _ _ (by simp),List.length_replicate,Nat.sub_self,e]
 simp[List.replicate_succ']
theorem yU0 {k n}(hk:n<k)(hn:n≤6) v:yx k n v=some (List.replicate n v):=by
 unfold yx
 rw[yU3 k hn]
 obtain ⟨s, h1, h2⟩ := yZ (L := fun c i (s : AC) => H9 k c v n i s) (N := n) (fun s => s) (fun i s => s = List.replicate i v ++ List.replicate (n - i) 0) (fun c s hs=>by
   show Dc k _ v n n s=_
   unfold Dc
   simp) (fun c i s hi hs=>by
   refine⟨_,?_,rfl⟩
   show Dc k _ v n i s=_
   have hl:s.length=n:=by grind
   unfold Dc
   simp[qH,qJ hi (by grind),aa hi,hl]
   rw[hs,yO5 v 0 n i hi]) (s:=List.replicate n 0) hk (by simp)
 grind
theorem TT {k n}(hk:n<k)(hn:n≤6) v:Dd k n v=some (List.replicate n (List.replicate n v)):=by
 unfold Dd
 rw[yU3 k hn]
 obtain ⟨s, h1, h2⟩ := yZ (L := fun c i (s : EQ) => Ia k c n v n i s) (N := n) (fun s => s) (fun i s => s = List.replicate i (List.replicate n v) ++ List.replicate (n - i) []) (fun c s hs=>by
   show De k _ n v n n s=_
   unfold De
   simp) (fun c i s hi hs=>by
   refine⟨_,?_,rfl⟩
   show De k _ n v n i s=_
   have hl:s.length=n:=by grind
   unfold De
   simp[qH,qJ hi (by grind),aa hi,hl,yU0 hk hn]
   rw[hs,yO5 (List.replicate n v) [] n i hi]) (s:=List.replicate n []) hk (by simp)
 grind
def sP (a:List qR)(b:EQ)(m:AC)(p:EQ)(l:List zF):AC:=((List.range a.length).filter fun i=>fu a b m p l i).map fun(i:Nat)=>(i:Int)
structure Mq (n:Nat) (l:List zF) (r2 r3:AC) (m4:EQ):Prop where
 l2:r2.length=n
 l3:r3.length=n
 l4:m4.length=n
 r4:∀i,i<n→(m4.getD i []).length=n
 more:∀i,i<n→r2.getD i 0=zP (gB i) l
 spent:∀i,i<n→r3.getD i 0=zP (gR i) l
 sent:∀i,i<n→∀j,j<n→cell m4 i j=dS l i j
def Ib (p:zF)(r:AC):AC:=
 let y0:=r.set p.2.1.toNat (zA (r.getD p.2.1.toNat 0-p.2.2.2.1))
 y0.set p.2.2.1.toNat (zA (y0.getD p.2.2.1.toNat 0+p.2.2.2.1))
def Ic (p:zF)(r:AC):AC:=bif !decide (p.2.2.2.2.1=3) then r.set p.2.1.toNat (zA (r.getD p.2.1.toNat 0+p.2.2.2.1)) else r
theorem vGf {n p}(h:yI n p){r}(hr:r.length=n){i}(hi:i<n)(hb:∀i,i<n→-4611826755915743232<r.getD i 0∧r.getD i 0<4611826755915743232):(Ib p r).getD i 0=r.getD i 0+gB i p:=by
 obtain⟨f0,f1,t0,t1,ne,a1,a2,c1,c3⟩:=h
 obtain⟨f,hf⟩:∃f:Nat,p.2.1=f:=⟨p.2.1.toNat,by omega⟩
 obtain⟨t,ht⟩:∃t:Nat,p.2.2.1=t:=⟨p.2.2.1.toNat,by omega⟩
 have L9:f≠t:=by omega
 have gG:f<n:=by omega
 have gj:t<n:=by omega
 unfold Ib gB
 simp only[hf,ht,ao]
 have b1:=hb f gG
 have b2:=hb t gj
 have key:∀x,(r.set f (zA (r.getD f 0-p.2.2.2.1))).getD x 0=if f=x then zA (r.getD f 0-p.2.2.2.1) else r.getD x 0:=by grind
 rw[jN,List.length_set,key t,if_neg L9,key i]
 by_cases h1:t=i
 ·subst h1
  rw[if_pos (by grind),if_pos rfl,if_neg (by omega),zR (by omega) (by omega)]
  omega
 ·rw[if_neg (by grind),if_neg (c:=((t:Int)=i)) (by omega)]
  by_cases h2:f=i
  ·subst h2
   rw[if_pos rfl,if_pos rfl,zR (by omega) (by omega)]
   omega
  omega
theorem vJi {n p}(h:yI n p){r}(hr:r.length=n){i}(hi:i<n)(hb:∀i,i<n→-4611826755915743232<r.getD i 0∧r.getD i 0<4611826755915743232):(Ic p r).getD i 0=r.getD i 0+gR i p:=by
 obtain⟨f0,f1,t0,t1,ne,a1,a2,c1,c3⟩:=h
 obtain⟨f,hf⟩:∃f:Nat,p.2.1=f:=⟨p.2.1.toNat,by omega⟩
 have gG:f<n:=by omega
 have b1:=hb f gG
 unfold Ic gR
 simp only[hf,ao]
 by_cases hc:p.2.2.2.2.1=3
 ·simp_all
 ·rw[ab hc]
  simp only[bM,aj]
  rw[jN]
  by_cases h2:f=i
  ·subst h2
   rw[if_pos (by grind),if_pos (by grind),zR (by omega) (by omega)]
  omega
theorem vWy l p i j:dS (l++[p]) i j=dS l i j+gS i j p-gS j i p:=by
 unfold dS
 rw[lh,lh]
 dsimp only[zP]
 omega
theorem Mr {α:Type} n i (v d:α)(h:i<n):(List.replicate n v).getD i d=v:=by
 simp_all
theorem TU {k n l}(hk:100<k)(hn:n≤6)(hl:vX n l):∃r2 r3 m4,Ms k n l=some (r2,r3,m4)∧Mq n l r2 r3 m4:=by
 have mO:=hl.2
 have := yZ (L := fun c i (s : AC × AC × EQ) => Ie k c l l.length i s.1 s.2.1 s.2.2) (N := l.length) (fun s => s) (fun i s => Mq n (l.take i) s.1 s.2.1 s.2.2) (fun c s hs=>by
   show Df k _ l l.length l.length s.1 s.2.1 s.2.2=_
   unfold Df
   simp) (fun c i s hi hs=>by
   have bT:yI n (l.getD i pd):=hl.1 _ (jK hi)
   refine⟨(Ib (l.getD i pd) s.1,Ic (l.getD i pd) s.2.1,uR (l.getD i pd) s.2.2),?_,?_⟩
   ·show Df k _ l l.length i s.1 s.2.1 s.2.2=_
    unfold Df Ib Ic uR
    simp only[qH,qJ hi (by grind),qG,ao,aa hi,aj]
    obtain⟨f0,f1,t0,t1,ne,a1,a2,c1,c3⟩:=bT
    obtain⟨f,hf⟩:∃f:Nat,(l.getD i pd).2.1=f:=⟨(l.getD i pd).2.1.toNat,by omega⟩
    obtain⟨t,ht⟩:∃t:Nat,(l.getD i pd).2.2.1=t:=⟨(l.getD i pd).2.2.1.toNat,by omega⟩
    have gG:f<n:=by omega
    have gj:t<n:=by omega
    have r1:=L8 (x:=zA ((s.2.2.getD f []).getD t 0+(l.getD i pd).2.2.2.1)) (t:=t) hs.l4 hs.r4 gG
    simp only[hf,ht,ao,qH,hs.l2,hs.l3,hs.l4,List.length_set,hs.r4 f gG,r1 t gj,aa gG,aa gj,aj]
    grind
   ·have aW:=hl.take i
    have hp := yN8 bT hs.l4 hs.r4 (fun i' bP j' lN=>by
     rw[hs.sent i' bP j' lN]
     have:=C8 aW i' j'
     omega)
    have hbM:∀i',i'<n→-4611826755915743232<s.1.getD i' 0∧s.1.getD i' 0<4611826755915743232:=fun i' bP=>by
     rw[hs.more i' bP];have:=L6 aW i';omega
    have hbS:∀i',i'<n→-4611826755915743232<s.2.1.getD i' 0∧s.2.1.getD i' 0<4611826755915743232:=fun i' bP=>by
     rw[hs.spent i' bP];have:=yu aW i';omega
    refine⟨by unfold Ib;simp[hs.l2],by unfold Ic;cases decide ((l.getD i pd).2.2.2.2.1=3)<;>simp[hs.l3],hp.1,hp.2.1,fun i' bP=>?_,fun i' bP=>?_,fun i' bP j' lN=>?_⟩
    ·rw[vGf bT hs.l2 bP hbM,hs.more i' bP,←ft l i pd hi,lh]
     dsimp only[zP]
     omega
    ·rw[vJi bT hs.l3 bP hbS,hs.spent i' bP,←ft l i pd hi,lh]
     dsimp only[zP]
     omega
    ·rw[hp.2.2 i' bP j' lN,hs.sent i' bP j' lN,←ft l i pd hi,vWy]) (n:=k) (s:=(List.replicate n 0,List.replicate n 0,List.replicate n (List.replicate n 0))) (by omega) ⟨by simp,by simp,by simp,by grind,fun i hi=>by rw[Mr n i _ _ hi];rfl,fun i hi=>by rw[Mr n i _ _ hi];rfl,fun i hi j hj=>by
    unfold cell
    rw[Mr n i _ _ hi,Mr n j _ _ hj]
    rfl⟩
 obtain⟨s,h1,h2⟩:=this
 rw[List.take_of_length_le (Nat.le_refl _)] at h2
 refine⟨s.1,s.2.1,s.2.2,?_,h2⟩
 unfold Ms
 rw[yU0 (by omega) hn,TT (by omega) hn]
 simp_all
theorem vS3 {k}{l:List zF}(hk:l.length<k)(hl:l.length<9223372036854775808) i:Mt k l i=some (!qI (fun x=> !decide ((l.getD x pd).2.1=i)) l.length 0):=by
 obtain ⟨x, h1, h2⟩ := uN (L := fun c x => Ig k c l l.length x i) (N := l.length) (fun x => decide ((l.getD x pd).2.1 = i)) (fun c=>by
   show Dg k _ l l.length l.length i=_
   unfold Dg
   simp) (fun c x hx=>by
   show Dg k _ l l.length x i=_
   unfold Dg TV
   simp[qH,qJ hx hl,aa hx]) hk
 unfold Mt TW
 grind
theorem yZ5 {n:Nat}{l:List zF}(hl:∀p∈l,yI n p)(i:Nat):qI (fun x=> !decide ((l.getD x pd).2.1=i)) l.length 0=decide (zP (gN i) l+zP (gR i) l=0):=by
 have hN:=uO (g:=gN i) (l:=l) fun p hp=>(Mb (hl p hp) i).1
 have hR:=uO (g:=gR i) (l:=l) fun p hp=>(L5 (hl p hp) i).1
 have e:zP (gN i) l+zP (gR i) l=zP (fun p:zF=>if p.2.1=(i:Int) then p.2.2.2.1 else 0) l:=by
  rw[←vAy]
  refine LO fun p hp=>?_
  unfold gN gR
  omega
 rw[e]
 have h:∀(l:List zF),(∀p∈l,yI n p)→((∀p∈l,¬p.2.1=i)↔zP (fun p:zF=>if p.2.1=(i:Int) then p.2.2.2.1 else 0) l=0):=by
  intro l
  induction l with
  |nil=>intro _;simp[zP]
  |cons q l ih=>
   intro hm
   have ih:=ih (by grind)
   have hq:=hm q (by simp)
   have h0:0≤zP (fun p:zF=>if p.2.1=i then p.2.2.2.1 else 0) l:=uO fun p hp=>by
    have:=(hm p (by grind)).a1
    omega
   unfold zP
   by_cases c:q.2.1=i
   ·rw[if_pos c]
    have:=hq.a1
    grind
   simp_all
 have bg:(∀p∈l,¬p.2.1=i)↔qI (fun x=> !decide ((l.getD x pd).2.1=i)) l.length 0=true:=by
  rw[gi]
  constructor
  ·intro h j hj
   simpa using h _ (jK hj)
  ·intro h p hp
   obtain⟨j,hj,rfl⟩:=List.getElem_of_mem hp
   have:=h j hj
   simpa[List.getD,hj] using this
 simp_all
def Dh (n Ih:Int):Bool:= !decide (Ih= -1)&&decide (n>Ih)
theorem yXo k n Ih:Dl k n Ih=some (Dh n Ih):=by
 unfold Dl Dh
 grind
theorem vE5 k b c r s (h:-9223372036854775808≤r-s)(h':r<9223372036854775808)(hs:0≤s):uS k b c r s=some (wR r s):=by
 unfold uS wR wN
 rw[zR h (by omega),ak]
 grind
def yy (b p:EQ)(l:List zF)(i:Nat)(short:Bool)(q:zF):Bool:=
 decide (q.2.1=i)&&((decide (q.2.2.2.2.1=3)&&short)||Dh (cell p i q.2.2.1.toNat+dS l i q.2.2.1.toNat) (cell b i q.2.2.1.toNat))
theorem vPt {k a b m p l}(hk:100<k)(hb:wL a b m p)(hl:vX a.length l){r2 r3 m4}(hm:Mq a.length l r2 r3 m4){i}(hi:i<a.length) bal cr res n0 (ju:0≤res∧res≤2305843009213693952):
  Mu k l i bal cr res r2 r3 m4 n0 a b m p=some (!qI (fun x=> !yy b p l i (decide (n0<wR res (zP (gR i) l))) (l.getD x pd)) l.length 0):=by
 have mO:=hl.2
 have hR:=yu hl i
 obtain ⟨x, h1, h2⟩ := uN (L := fun c x => Ii k c l l.length x i bal cr res r2 r3 m4 n0 a b m p) (N := l.length) (fun x => yy b p l i (decide (n0 < wR res (zP (gR i) l))) (l.getD x pd)) (fun c=>by
   show Dm k _ l l.length l.length i bal cr res r2 r3 m4 n0 a b m p=_
   unfold Dm
   simp) (fun c x hx=>by
   show Dm k _ l l.length x i bal cr res r2 r3 m4 n0 a b m p=_
   have bT:yI a.length (l.getD x pd):=hl.1 _ (by grind)
   unfold Dm
   simp only[qH,qJ hx (by grind),qG,ao,aa hx]
   generalize l.getD x (0,(0,(0,(0,(0,(0,0))))))=q at bT⊢
   obtain⟨id,f,t,am,cl,st,ti⟩:=q
   obtain⟨f0,f1,t0,t1,ne,a1,a2,c1,c3⟩:=bT
   dsimp only at f0 f1 t0 t1 ne a1 a2 c1 c3⊢
   obtain⟨t,rfl⟩:∃y:Nat,t=y:=⟨t.toNat,by omega⟩
   have gj:t<a.length:=by omega
   unfold TX yy
   cases hf:decide (f=(i:Int)) with
   |false=>simp
   |true=>
    have e1:(r3.getD i 0)=zP (gR i) l:=hm.spent i hi
    have e2:(m4.getD i []).getD t 0=dS l i t:=hm.sent i hi t gj
    have oM:=hb.nums.net i hi t gj
    have hd:=C8 hl i t
    have e3:zA ((p.getD i []).getD t 0+dS l i t)=cell p i t+dS l i t:=zR (by show _≤cell p i t+dS l i t;omega) (by show cell p i t+dS l i t<_;omega)
    simp only[qH,hm.l3,hm.l4,hm.r4 i hi,hb.pl,hb.pr i hi,hb.bl,hb.br i hi,aa hi,aa gj,ao,e1,e2,e3,vE5 k bal cr res (zP (gR i) l) (by omega) (by omega) hR.1,af,yXo]
    cases decide (cl=3)<;>cases decide (n0<wR res (zP (gR i) l))<;>rfl) (n:=k) (by omega)
 unfold Mu TY
 grind
theorem TZ {α g}:∀{l:List α},(∀p∈l,0≤g p)→(0<zP g l↔∃p∈l,0<g p)
 |[],_=>by simp[zP]
 |q::l,h=>by
  have ih:=TZ (g:=g) (l:=l) (by grind)
  have h0:=uO (g:=g) (l:=l) (by grind)
  unfold zP
  grind
theorem Mv {N p}:qI p N 0=false↔∃j,j<N∧p j=false:=by
 constructor
 ·apply Classical.byContradiction
  intro hn
  have:qI p N 0=true:=gi.2 (by grind)
  simp_all
 ·rintro⟨j,hj,hp⟩
  cases h:qI p N 0 with
  |false=>rfl
  |true=>rw[gi.1 h j hj] at hp;cases hp
theorem vL0 {a:List qR}{b p l}(hl:vX a.length l){i}(hi:i<a.length) short:
  (!qI (fun x=> !yy b p l i short (l.getD x pd)) l.length 0)=(!qI (sM b p l i) a.length 0||(decide (zP (gN i) l>0)&&short)):=by
 have hN:=TZ (g:=gN i) (l:=l) fun p hp=>(Mb (hl.1 p hp) i).1
 have hS:=fun j=>TZ (g:=gS i j) (l:=l) fun p hp=>(TN (hl.1 p hp) i j).1
 rw[Bool.eq_iff_iff]
 simp only[Bool.not_eq_true',Bool.or_eq_true,aV,aP]
 rw[Mv,Mv]
 constructor
 ·rintro⟨x,hx,hb⟩
  have bT:=hl.1 _ (jK (d:=pd) hx)
  have cJ:=jK (d:=pd) hx
  generalize l.getD x pd=q at hb bT cJ
  simp only[yy,Bool.not_eq_false',aV,Bool.or_eq_true,aP] at hb
  obtain⟨hf,hb⟩:=hb
  rcases hb with⟨hc,hs⟩|ho
  ·refine .inr ⟨hN.2 ⟨q,cJ,?_⟩,hs⟩
   unfold gN
   rw[if_pos ⟨hf,hc⟩]
   have:=bT.a1;omega
  ·have h1:=bT.t0;have h2:=bT.t1
   refine .inl ⟨q.2.2.1.toNat,by omega,?_⟩
   unfold sM
   have oI:zP (gS i q.2.2.1.toNat) l>0:=(hS _).2 ⟨q,cJ,by
    unfold gS
    rw[if_pos (by grind)]
    have:=bT.a1;omega⟩
   rw[aa oI]
   unfold Dh at ho
   simp_all
 ·rintro(⟨j,hj,hb⟩|⟨hp,hs⟩)
  ·simp only[sM,Bool.not_eq_false',aV,aP] at hb
   obtain⟨oI,ho⟩:=hb
   obtain⟨q,hq,hg⟩:=(hS j).1 oI
   obtain⟨x,hx,rfl⟩:=List.getElem_of_mem hq
   refine⟨x,hx,?_⟩
   have e:l.getD x pd=l[x]:=by simp[List.getD,hx]
   rw[e]
   unfold gS at hg
   by_cases c:l[x].2.1=(i:Int)∧l[x].2.2.1=(j:Int)
   ·unfold yy Dh
    simp_all
   ·rw[if_neg c] at hg;omega
  ·obtain⟨q,hq,hg⟩:=hN.1 hp
   obtain⟨x,hx,rfl⟩:=List.getElem_of_mem hq
   refine⟨x,hx,?_⟩
   have e:l.getD x pd=l[x]:=by simp[List.getD,hx]
   rw[e]
   unfold gN at hg
   by_cases c:l[x].2.1=(i:Int)∧l[x].2.2.2.2.1=3
   ·unfold yy
    simp_all
   ·rw[if_neg c] at hg;omega
theorem T0 {k a b m p l}(hk:100<k)(hb:wL a b m p)(hl:vX a.length l){r2 r3 m4}(hm:Mq a.length l r2 r3 m4){i}(hi:i<a.length)(hs:decide (zP (gN i) l+zP (gR i) l=0)=false):
  Mw k r2 r3 m4 a b m p i l=some (fu a b m p l i):=by
 have h6:=hb.n6
 have mO:=hl.2
 have hB:=L6 hl i
 have hx:=hb.acct i hi
 simp only[eW,aV,aP] at hx
 have yw:-4611686018427387904<(a.getD i ad).1∧(a.getD i ad).1<4611686018427387904∧0≤(a.getD i ad).2.1∧(a.getD i ad).2.1≤2305843009213693952∧0≤(a.getD i ad).2.2∧(a.getD i ad).2.2≤2305843009213693952:=by grind
 have oM:=uP (Mk hb hi) a.length
 have e1:r2.getD i 0=zP (gB i) l:=hm.more i hi
 unfold Mw
 simp only[qH,aa hi,aj,ao,hm.l2,hm.l4,e1,hm.r4 i hi]
 rw[vQc (by omega) (by omega) hi hb.pl (hb.pr i hi) (Mk hb hi)]
 rw[zR (x:=(a.getD i ad).1+(a.getD i ad).2.1) (by omega) (by omega),zR (x:=(a.getD i ad).1+(a.getD i ad).2.1+zP (gB i) l) (by omega) (by omega)]
 unfold fu
 rw[hs]
 cases hn:decide ((a.getD i ad).1+(a.getD i ad).2.1+zP (gB i) l<0) with
 |true=>simp
 |false=>
  obtain ⟨s, q1, q2⟩ := yZ (L := fun c j (s : Int) => yz k c l s (m4.getD i []) a.length j r2 r3 m4 a b m p i (a.getD i ad).1 (a.getD i ad).2.1 (a.getD i ad).2.2 ((a.getD i ad).1 + (a.getD i ad).2.1 + zP (gB i) l)) (N := a.length) (fun s => (l, s, r2, r3, m4, a, b, m, p, (i : Int), (a.getD i ad).1, (a.getD i ad).2.1, (a.getD i ad).2.2, (a.getD i ad).1 + (a.getD i ad).2.1 + zP (gB i) l)) (fun j s => s = qK (cell p i) a.length + qK (dS l i) j) (fun c s hs=>by
    show Dn k _ l s (m4.getD i []) a.length a.length r2 r3 m4 a b m p i (a.getD i ad).1 (a.getD i ad).2.1 (a.getD i ad).2.2 ((a.getD i ad).1+(a.getD i ad).2.1+zP (gB i) l)=_
    unfold Dn
    simp) (fun c j s hj hs=>by
    refine⟨qK (cell p i) a.length+qK (dS l i) (j+1),?_,rfl⟩
    show Dn k _ l s (m4.getD i []) a.length j r2 r3 m4 a b m p i (a.getD i ad).1 (a.getD i ad).2.1 (a.getD i ad).2.2 ((a.getD i ad).1+(a.getD i ad).2.1+zP (gB i) l)=_
    have e2:(m4.getD i []).getD j 0=dS l i j:=hm.sent i hi j hj
    have BZ:=uP (fun j=>C8 hl i j) j
    have Co:=C8 hl i j
    unfold Dn
    simp only[qH,qJ hj (by grind),qG,ao,hm.r4 i hi,aa hj,aj,e2]
    rw[hs,zR (x:=qK (cell p i) a.length+qK (dS l i) j+dS l i j) (by omega) (by omega),Int.add_assoc]
    rfl) (n:=k) (s:=qK (cell p i) a.length) (by omega) (by show _=_+0;omega)
  have q1':yz k k l (qK (cell p i) a.length) (m4.getD i []) a.length 0 r2 r3 m4 a b m p i (a.getD i ad).1 (a.getD i ad).2.1 (a.getD i ad).2.2 ((a.getD i ad).1+(a.getD i ad).2.1+zP (gB i) l)=_:=q1
  simp only[ak,af]
  rw[show yz k k l (qK (cell p i) a.length) (m4.getD i []) a.length 0 r2 r3 m4 a b m p i (a.getD i (0,(0,0))).1 (a.getD i (0,(0,0))).2.1 (a.getD i (0,(0,0))).2.2 ((a.getD i ad).1+(a.getD i ad).2.1+zP (gB i) l)=_ from q1']
  simp only[af,qH,hb.ml,aa hi,aj,ao,yXo]
  rw[vPt hk hb hl hm hi _ _ _ _ (by grind),vL0 hl hi,q2,yNn hl.1 i hi]
  have en:qK (cell p i) a.length+-zP (gB i) l=qK (cell p i) a.length-zP (gB i) l:=by omega
  rw[en]
  unfold Dh
  grind
theorem yT2 f i:((List.range (i+1)).filter f).map (fun(x:Nat)=>(x:Int))=(((List.range i).filter f).map fun(x:Nat)=>(x:Int))++(bif f i then[(i:Int)] else[]):=by
 rw[List.range_succ,List.filter_append,List.map_append]
 grind
theorem T1 {k a b m p l}(hk:100<k)(hb:wL a b m p)(hl:vX a.length l):za k a b m p l=some (sP a b m p l):=by
 have h6:=hb.n6
 have mO:=hl.2
 obtain⟨r2,r3,m4,g1,hm⟩:=TU hk h6 hl
 obtain ⟨r, h1, h2⟩ := yZ (L := fun c i (r : AC) => Dp k c l a.length i a b m p r2 r3 m4 r) (N := a.length) (fun r => r) (fun i r => r = ((List.range i).filter fun i => fu a b m p l i).map fun (x : Nat) => (x : Int)) (fun c r hr=>by
   show Dq k _ l a.length a.length a b m p r2 r3 m4 r=_
   unfold Dq
   simp) (fun c i r hi hr=>by
   have hle:r.length≤i:=by
    grind
   have aU:zO (r.length+1) 8=true:=qT (by omega) (by omega)
   refine⟨_,?_,rfl⟩
   show Dq k _ l a.length i a b m p r2 r3 m4 r=_
   unfold Dq
   simp only[qJ hi (by grind),vS3 (show l.length<k by omega) (by omega)]
   rw[yZ5 hl.1,yT2,←hr]
   cases hz:decide (zP (gN i) l+zP (gR i) l=0) with
   |true=>
    have:fu a b m p l i=false:=by unfold fu;simp_all
    simp_all
   |false=>
    rw[T0 hk hb hl hm hi hz]
    grind) (n:=k) (s:=[]) (by omega) rfl
 unfold za
 rw[g1]
 simp
 have dO:Dp k k l a.length 0 a b m p r2 r3 m4 []=some r:=h1
 rw[dO,h2]
 rfl
theorem vBp {k a b m p l}(hk:100<k)(hb:wL a b m p)(hl:vX a.length l):sN k a b m p l=some (sP a b m p l):=by
 have h6:=hb.n6
 obtain ⟨r, h1, h2⟩ := yZ (L := fun c i (r : AC) => sO k c l i a b m p r) (N := a.length) (fun r => r) (fun i r => r = ((List.range i).filter fun i => fu a b m p l i).map fun (x : Nat) => (x : Int)) (fun c r hr=>by
   show ql k _ l a.length a b m p r=_
   unfold ql
   simp) (fun c i r hi hr=>by
   have hle:r.length≤i:=by
    grind
   have aU:zO (r.length+1) 8=true:=qT (by omega) (by omega)
   refine⟨_,?_,rfl⟩
   show ql k _ l i a b m p r=_
   unfold ql
   simp[qJ hi (by grind),yQx hk hb hl hi]
   rw[yT2,←hr]
   grind) (s:=[]) (show a.length<k by omega) rfl
 unfold sN
 have dO:sO k k l 0 a b m p []=some r:=h1
 rw[dO,h2]
 rfl
theorem T2 {a b m p l}:decide (((sP a b m p l).length:Int)=0)=qI (fun i=> !fu a b m p l i) a.length 0:=by
 unfold sP
 cases h:qI (fun i=> !fu a b m p l i) a.length 0 with
 |true=>
  rw[gi] at h
  simp_all
 |false=>
  apply ab
  intro h0
  obtain⟨j,hj,hs⟩:=Mv.1 h
  simp_all
theorem vT1 {k}{l:List zF}(hk:l.length<k)(hl:l.length<9223372036854775808)(a:List qR) b m p:Mx k l a b m p=some (!mN a.length l):=by
 obtain ⟨x, h1, h2⟩ := uN (L := fun c i => Ij k c l l.length i a b m p) (N := l.length) (fun i => !sJ a.length (l.getD i pd)) (fun c=>by
  show Dr k _ l l.length l.length a b m p=_
  unfold Dr
  simp) (fun c i hi=>by
  show Dr k _ l l.length i a b m p=_
  unfold Dr T3
  simp[qH,qJ hi hl,aa hi,TH]) hk
 unfold Mx T4
 unfold mN
 grind
theorem vZ4 {k a b m p}{l:List zF}(hk:100<k)(hb:wL a b m p)(hl:l.length≤80):zb k a b m p l=some (uV a b m p l):=by
 unfold zb uV
 have e:decide ((l.length:Int)≤64)=decide (l.length≤64):=by
  grind
 rw[e,vT1 (by omega) (by omega)]
 cases bY:decide (l.length≤64) with
 |false=>simp
 |true=>
  cases hm:mN a.length l with
  |false=>rfl
  |true=>
   have hr:vX a.length l:=⟨yt.1 hm,by grind⟩
   simp only[aj,af,aA,bM,T1 hk hb hr,T2,Bool.true_and]
def qO (l:List zF):Prop:=List.Pairwise (fun p q=>p.1≠q.1) l
theorem qO.filter {l:List zF}(h:qO l)(f:zF→Bool):qO (l.filter f):=List.Pairwise.filter f h
theorem zc {α:Type}(f:α→Bool)(l:List α)(i:Nat)(d:α)(h:i<l.length):(l.take (i+1)).filter f=(l.take i).filter f++(bif f (l.getD i d) then[l.getD i d] else[]):=by
 rw[←ft l i d h,List.filter_append]
 congr 1
theorem Ik {α X:Type}(d:α){l:List α}{L:Nat→Int→List α→Option X}(f:α→Bool)(e:List α→X)(bF:∀n s,L (n+1) (l.length:Int) s=some (e s))
  (aM:∀n i s,i<l.length→s.length≤i→L (n+1) (i:Int) s=L n ((i+1:Nat):Int) (bif f (l.getD i d) then s++[l.getD i d] else s)) {n:Nat} (hn:l.length<n):
  L n 0 []=some (e (l.filter f)):=by
 obtain ⟨s', h1, h2⟩ := yZ (L := L) (N := l.length) e (fun i s => s = (l.take i).filter f) (fun n s _ => bF n s) (fun n i s hi hs=>by
  refine⟨_,aM n i s hi ?_,?_⟩
  ·subst hs
   have:=List.length_filter_le f (l.take i)
   rw[List.length_take] at this
   omega
  ·subst hs
   rw[zc f l i d hi]
   cases f (l.getD i d)<;>simp) (s:=[]) hn (by simp)
 rw[h1,h2,List.take_length]
def qV (l:List zF):Prop:=l.length≤1000
theorem lX {n:Nat}(h:n≤1000):zO (n+1) 56=true:=qT (by omega) (by omega)
def iR (t:Int)(p:zF):Bool:=bif decide (t≥p.2.2.2.2.2.1) then decide (t≤p.2.2.2.2.2.2) else false
theorem T5 {k:Nat}{l:List zF}(hk:l.length<k)(hl:qV l)(t:Int):Ds k l t=some (l.filter (iR t)):=by
 unfold Ds T6
 have := Ik pd (L := fun n i s => Il k n l l.length i t s) (iR t) id (fun n s=>by
  show Dt k _ l l.length l.length t s=_
  unfold Dt
  simp only [qG, ab (Nat.lt_irrefl _), ak]; rfl) (fun n i s hi hs=>by
  show Dt k _ l l.length i t s=_
  unfold Dt T7 T8
  unfold qV at hl
  simp only[qH,qJ hi (show l.length<9223372036854775808 by omega),qG,ao,aa hi,aj,lX (show s.length≤1000 by omega)]
  unfold iR
  cases h1:decide (t≥(l.getD i pd).2.2.2.2.2.1) with
  |false=>rfl
  |true=>
   cases h2:decide (t≤(l.getD i pd).2.2.2.2.2.2)<;>rfl) hk
 rw[this]
 rfl
theorem T9 {k:Nat}{l:List zF}(hk:l.length<k)(hl:qV l)(t:Int):Du k l t=some (l.filter (iR t)):=by
 unfold Du
 have := Ik pd (L := fun n i s => Im k n l t i s) (iR t) id (fun n s=>by
  show Dv k _ l t l.length s=_
  unfold Dv
  simp only [qG, ab (Nat.lt_irrefl _), ak]; rfl) (fun n i s hi hs=>by
  show Dv k _ l t i s=_
  unfold Dv Ua
  unfold qV at hl
  simp only[qH,qJ hi (show l.length<9223372036854775808 by omega),qG,ao,aa hi,aj,lX (show s.length≤1000 by omega)]
  unfold iR
  cases h1:decide (t≥(l.getD i pd).2.2.2.2.2.1) with
  |false=>rfl
  |true=>
   cases h2:decide (t≤(l.getD i pd).2.2.2.2.2.2)<;>rfl) hk
 rw[this]
 rfl
def wH (f:Int)(p:zF):Bool:=decide (p.2.1=f)
theorem My {k:Nat}{l:List zF}(hk:l.length<k)(hl:qV l)(f:Int):sQ k l f=some (l.filter (wH f)):=by
 unfold sQ
 have := Ik pd (L := fun n i s => Io k n l f i s) (wH f) id (fun n s=>by
  show Dw k _ l f l.length s=_
  unfold Dw
  simp only [qG, ab (Nat.lt_irrefl _), ak]; rfl) (fun n i s hi hs=>by
  show Dw k _ l f i s=_
  unfold Dw
  unfold qV at hl
  simp only[qH,qJ hi (show l.length<9223372036854775808 by omega),qG,ao,aa hi,aj,lX (show s.length≤1000 by omega)]
  unfold wH
  cases h1:decide ((l.getD i pd).2.1=f)<;>rfl) hk
 rw[this]
 rfl
def Mz (r:List zF)(p:zF):Bool:=qI (fun x=>decide (((r.filter (wH p.2.1)).getD x pd).2.2.2.2.1=3)) (r.filter (wH p.2.1)).length 0
def MA (r:List zF)(p:zF):Bool:=decide ((r.filter (wH p.2.1)).getD 0 pd=p)
def qm (r:List zF)(p:zF):Bool:=MA r p||Mz r p
def vW (l:List zF)(t:Int):List zF:=(l.filter (iR t)).filter (qm (l.filter (iR t)))
theorem eq7 (p q:zF):((decide (p.1=q.1))&&((decide (p.2.1=q.2.1))&&((decide (p.2.2.1=q.2.2.1))&&((decide (p.2.2.2.1=q.2.2.2.1))&&((decide (p.2.2.2.2.1=q.2.2.2.2.1))&&((decide (p.2.2.2.2.2.1=q.2.2.2.2.2.1))&&(decide (p.2.2.2.2.2.2=q.2.2.2.2.2.2))))))))=decide (p=q):=by
 obtain⟨a,b,c,d,e,f,g⟩:=p
 obtain⟨a',b',c',d',e',f',g'⟩:=q
 simp only[Prod.mk.injEq]
 rw[Bool.eq_iff_iff]
 simp only[aV,aP]
theorem Ub {k n:Nat}(s7:Int)(r0 r1 r2:List zF)(hk:r2.length<n)(hl:qV r2):
  Dx k n s7 true 0 r0 r1 r2=some (s7,qI (fun x=>decide ((r2.getD x pd).2.2.2.2.1=3)) r2.length 0,r0,r1,r2):=by
 obtain ⟨s', h1, h2⟩ := yZ (L := fun n i s => Dx k n s7 s i r0 r1 r2) (N := r2.length) (fun s => (s7, s, r0, r1, r2)) (fun i s => s = qI (fun x => decide ((r2.getD x pd).2.2.2.2.1 = 3)) i 0) (fun n s _=>by
  show Dy k _ s7 s r2.length r0 r1 r2=_
  unfold Dy
  simp only [qG, ab (Nat.lt_irrefl _), ak]) (fun n i s hi hs=>by
  refine⟨_,?_,rfl⟩
  show Dy k _ s7 s i r0 r1 r2=_
  unfold Dy
  unfold qV at hl
  simp only[qH,qJ hi (show r2.length<9223372036854775808 by omega),qG,ao,aa hi,aj]
  have e:qI (fun x=>decide ((r2.getD x pd).2.2.2.2.1=3)) (i+1) 0=(s&&decide ((r2.getD i pd).2.2.2.2.1=3)):=by
   rw[Bool.eq_iff_iff,hs]
   simp only[gi,aV,aP]
   constructor
   ·intro h
    exact⟨fun j hj=>h j (by omega),h i (by omega)⟩
   ·rintro⟨h1,h2⟩ j hj
    by_cases c:j=i
    ·subst c;exact h2
    ·exact h1 j (by omega)
  rw[e]
  cases s<;>rfl) (s:=true) hk rfl
 exact h1.trans (by rw[h2])
theorem yRa {k:Nat}{l:List zF}(hk:l.length<k)(hl:qV l)(t:Int):Ip k l t=some (vW l t):=by
 unfold Ip
 rw[T9 hk hl]
 simp only[af]
 unfold vW
 have dG:(l.filter (iR t)).length≤l.length:=List.length_filter_le _ _
 generalize l.filter (iR t)=r at dG
 unfold qV at hl
 have := Ik pd (L := fun n i s => Iq k n i r s) (l := r) (qm r) id (fun n s=>by
  show Dz k _ r.length r s=_
  unfold Dz
  simp only [qG, ab (Nat.lt_irrefl _), ak]; rfl) (fun n i s hi hs=>by
  show Dz k _ i r s=_
  unfold Dz
  have sd:(r.filter (wH (r.getD i pd).2.1)).length≤r.length:=List.length_filter_le _ _
  have oe:0<(r.filter (wH (r.getD i pd).2.1)).length:=by
   apply List.length_pos_of_mem (a:=r.getD i pd)
   rw[List.mem_filter]
   exact⟨jK hi,by simp[wH]⟩
  have MB:=My (k:=k) (l:=r) (by omega) (show r.length≤1000 by omega) (r.getD i pd).2.1
  have b0:∀n:Nat,zB 0 n=decide (0<n):=fun n=>qH 0 n
  have e7:=eq7 ((r.filter (wH (r.getD i pd).2.1)).getD 0 pd) (r.getD i pd)
  simp only[pd] at MB sd oe e7
  simp only[qH,qJ hi (show r.length<9223372036854775808 by omega),qG,ao,aa hi,aj,lX (show s.length≤1000 by omega)]
  rw[MB]
  simp only[af]
  rw[Ub ((i:Nat):Int) r s _ (by omega) (show _≤1000 by omega)]
  simp only[af,b0,aa oe,aa hi,aj,qH,ao,qJ hi (show r.length<9223372036854775808 by omega),lX (show s.length≤1000 by omega)]
  rw[e7]
  unfold qm MA Mz
  simp only[pd]
  generalize decide ((r.filter (wH (r.getD i (0,(0,(0,(0,(0,(0,0))))))).2.1)).getD 0 (0,(0,(0,(0,(0,(0,0))))))=r.getD i (0,(0,(0,(0,(0,(0,0)))))))=x
  generalize qI _ _ 0=y
  cases x<;>cases y<;>rfl) (show r.length<k by omega)
 have e:((0:Nat):Int)=0:=rfl
 rw[this]
 rfl
def zd (f:Int)(q:zF):Bool:=decide (q.2.1=f)&& !decide (q.2.2.2.2.1=3)
theorem vG8 {k:Nat}{l:List zF}(hk:l.length<k)(hl:l.length<9223372036854775808)(i f t a c s e:Int):
  MC k l i f t a c s e=some (!qI (fun x=> !zd f (l.getD x pd)) l.length 0):=by
 obtain ⟨x, h1, h2⟩ := uN (L := fun n i' => DA k n l l.length i' i f t a c s e) (N := l.length) (fun x => zd f (l.getD x pd)) (fun n=>by
  show DB k _ l l.length l.length i f t a c s e=_
  unfold DB
  simp only [qG, ab (Nat.lt_irrefl _), ak]) (fun n j hj=>by
  show DB k _ l l.length j i f t a c s e=_
  unfold DB Uc
  simp only[qH,qJ hj hl,qG,ao,aa hj,aj]
  unfold zd
  cases h1:decide ((l.getD j pd).2.1=f) with
  |false=>rfl
  |true=>cases h2:decide ((l.getD j pd).2.2.2.2.1=3)<;>rfl) hk
 unfold MC Ud
 have dO:DA k k l l.length 0 i f t a c s e=some x:=h1
 rw[dO]
 rw[←h2]
 cases x<;>rfl
theorem vJ4 (r:List zF)(p:zF):Mz r p=true↔∀q∈r,q.2.1=p.2.1→q.2.2.2.2.1=3:=by
 unfold Mz
 rw[gi]
 constructor
 ·intro h q hq he
  have hm:q∈r.filter (wH p.2.1):=List.mem_filter.2 ⟨hq,by simp[wH,he]⟩
  obtain⟨i,hi,e⟩:=List.getElem_of_mem hm
  have:=h i hi
  rw[List.getD_eq_getElem?_getD,List.getElem?_eq_getElem hi,e] at this
  simpa using this
 ·intro h j hj
  have hm:=jK (d:=pd) hj
  rw[List.mem_filter] at hm
  have:=h _ hm.1 (by simpa[wH] using hm.2)
  simpa using this
theorem vK3 (r:List zF)(f:Int):qI (fun x=> !zd f (r.getD x pd)) r.length 0=true↔∀q∈r,q.2.1=f→q.2.2.2.2.1=3:=by
 rw[gi]
 constructor
 ·intro h q hq he
  obtain⟨i,hi,e⟩:=List.getElem_of_mem hq
  have:=h i hi
  rw[List.getD_eq_getElem?_getD,List.getElem?_eq_getElem hi,e] at this
  simpa[zd,he] using this
 ·intro h j hj
  have:=h _ (jK (d:=pd) hj)
  simp only[zd,Bool.not_eq_true',Bool.and_eq_false_iff,Bool.not_eq_false',aP,decide_eq_false_iff_not]
  by_cases c:(r.getD j pd).2.1=f
  ·exact .inr (this c)
  ·exact .inl c
theorem qO.split {r:List zF}(h:qO r){i:Nat}(hi:i<r.length):∀q∈r.take i,q.1≠(r.getD i pd).1:=by
 intro q hq
 have e:r.take (i+1)=r.take i++[r.getD i pd]:=(ft r i pd hi).symm
 have hs:qO (r.take (i+1)):=List.Pairwise.sublist (List.take_sublist _ _) h
 rw[e] at hs
 exact(List.pairwise_append.1 hs).2.2 q hq _ (List.mem_singleton.2 rfl)
theorem Ir {α:Type}(r:List α)(i:Nat)(d:α)(hi:i<r.length):r=r.take i++r.getD i d::r.drop (i+1):=by
 conv=>lhs;rw[←List.take_append_drop i r]
 congr 1
 rw[List.drop_eq_getElem_cons hi]
 congr 1
 rw[List.getD_eq_getElem?_getD,List.getElem?_eq_getElem hi];rfl
theorem vP0 {r:List zF}(h:qO r){i:Nat}(hi:i<r.length):MA r (r.getD i pd)= !(r.take i).any (wH (r.getD i pd).2.1):=by
 unfold MA
 have e:∀f,wH f (r.getD i pd)=true→r.filter (wH f)=(r.take i).filter (wH f)++r.getD i pd::(r.drop (i+1)).filter (wH f):=by
  intro f hf
  have:=congrArg (List.filter (wH f)) (Ir r i pd hi)
  rwa [List.filter_append,List.filter_cons_of_pos hf] at this
 have e:=e (r.getD i pd).2.1 (by simp[wH])
 rw[e]
 cases ha:(r.take i).any (wH (r.getD i pd).2.1) with
 |false=>
  have:(r.take i).filter (wH (r.getD i pd).2.1)=[]:=by
   rw[List.filter_eq_nil_iff]
   intro q hq hf
   rw[List.any_eq_false] at ha
   exact ha q hq hf
  rw[this]
  simp
 |true=>
  cases hf:(r.take i).filter (wH (r.getD i pd).2.1) with
  |nil=>
   rw[List.filter_eq_nil_iff] at hf
   rw[List.any_eq_true] at ha
   obtain⟨q,h1,h2⟩:=ha
   exact absurd h2 (hf q h1)
  |cons q l=>
   have hq:q∈r.take i:=(List.mem_filter.1 (hf▸List.mem_cons_self ..:q∈(r.take i).filter _)).1
   have:=h.split hi q hq
   have e2:(q::l++r.getD i pd::(r.drop (i+1)).filter (wH (r.getD i pd).2.1)).getD 0 pd=q:=rfl
   rw[e2]
   simp only[aA,decide_eq_false_iff_not]
   intro c
   exact this (by rw[c])
theorem vT9 {r:List zF}(h:qO r){i:Nat}(hi:i<r.length):
  qm r (r.getD i pd)=(!(r.take i).any (wH (r.getD i pd).2.1)||(decide ((r.getD i pd).2.2.2.2.1=3)&&qI (fun x=> !zd (r.getD i pd).2.1 (r.getD x pd)) r.length 0)):=by
 unfold qm
 rw[vP0 h hi]
 congr 1
 rw[Bool.eq_iff_iff,vJ4,aV,vK3,aP]
 exact⟨fun g=>⟨g _ (jK hi) rfl,g⟩,fun g=>g.2⟩
theorem lookup_cons (f g:Int)(l:List (Int×Bool)):(List.lookup f ((g,true)::l)).getD false=(decide (f=g)||(List.lookup f l).getD false):=by
 rw[List.lookup_cons]
 by_cases c:f=g
 ·subst c;simp
 ·have:(f==g)=false:=by simpa using c
  rw[this]
  simp[c]
theorem qZy {k:Nat}{l:List zF}(hk:l.length<k)(hl:qV l)(hd:qO l)(t:Int):Is k l t=some (vW l t):=by
 unfold Is
 rw[T5 hk hl]
 simp only[af]
 unfold vW
 have dG:(l.filter (iR t)).length≤l.length:=List.length_filter_le _ _
 have uk:=hd.filter (iR t)
 generalize l.filter (iR t)=r at dG uk
 unfold qV at hl
 unfold Ue
 obtain ⟨s', h1, h2, h3⟩ := yZ (L := fun n i (s : List (Int × Bool) × List zF) => DC k n r r.length i s.1 r s.2) (N := r.length) (fun s => (s.1, r, s.2)) (fun i s => (∀ f, (List.lookup f s.1).getD false = (r.take i).any (wH f)) ∧ s.2 = (r.take i).filter (qm r)) (fun n s _=>by
  show DD k _ r r.length r.length s.1 r s.2=_
  unfold DD
  simp only [qG, ab (Nat.lt_irrefl _), ak]) (fun n i s hi hs=>by
  refine⟨(((r.getD i pd).2.1,true)::s.1,bif qm r (r.getD i pd) then s.2++[r.getD i pd] else s.2),?_,?_,?_⟩
  ·show DD k _ r r.length i s.1 r s.2=_
   unfold DD Uf
   have hlen:s.2.length≤i:=by
    rw[hs.2]
    have:=List.length_filter_le (qm r) (r.take i)
    rw[List.length_take] at this
    omega
   have hc:=vG8 (k:=k) (l:=r) (by omega) (by omega) (r.getD i pd).1 (r.getD i pd).2.1 (r.getD i pd).2.2.1 (r.getD i pd).2.2.2.1 (r.getD i pd).2.2.2.2.1 (r.getD i pd).2.2.2.2.2.1 (r.getD i pd).2.2.2.2.2.2
   have sC:=hs.1 (r.getD i pd).2.1
   have hp:=vT9 uk hi
   simp only[pd] at hc sC hp⊢
   simp only[qH,qJ hi (show r.length<9223372036854775808 by omega),qG,ao,aa hi,aj,lX (show s.2.length≤1000 by omega)]
   rw[hc,sC,hp]
   generalize (r.take i).any _=x
   generalize qI _ _ 0=y
   generalize decide ((r.getD i (0,(0,(0,(0,(0,(0,0))))))).2.2.2.2.1=3)=z
   cases x<;>cases y<;>cases z<;>rfl
  ·intro f
   rw[lookup_cons,hs.1 f,←ft r i pd hi,List.any_append,Bool.or_comm]
   congr 1
   simp only[List.any_cons,List.any_nil,Bool.or_false,wH]
   rw[Bool.eq_iff_iff]
   simp only[aP]
   exact eq_comm
  ·show(bif qm r (r.getD i pd) then s.2++[r.getD i pd] else s.2)=_
   rw[hs.2,zc _ _ _ pd hi]
   cases qm r (r.getD i pd)<;>simp) (s:=([],[])) (show r.length<k by omega) ⟨fun f=>by simp,by simp⟩
 have dO:DC k k r r.length 0 [] r []=some (s'.1,r,s'.2):=h1
 rw[dO,h3,List.take_length]
 rfl
def uW (p:Nat→Bool):Nat→Nat→Option Nat
 |0,_=>none
 |c+1,i=>bif p i then some i else uW p c (i+1)
def Ug:Option Nat→Unit⊕Int
 |some x=>.inr (x:Int)
 |none=>.inl ()
theorem Uh {L:Nat→Int→Option (Unit⊕Int)}{N:Nat} bad (bF:∀n,L (n+1) (N:Int)=some (.inl ()))
  (aM:∀n i,i<N→L (n+1) (i:Int)=bif bad i then some (.inr (i:Int)) else L n ((i+1:Nat):Int)):
  ∀c i n,i+c=N→c<n→L n (i:Int)=some (Ug (uW bad c i))
 |0,i,n,h,hn=>by
  obtain⟨n,rfl⟩:∃m,n=m+1:=⟨n-1,by omega⟩
  have:i=N:=by omega
  subst this
  exact bF n
 |c+1,i,n,h,hn=>by
  obtain⟨n,rfl⟩:∃m,n=m+1:=⟨n-1,by omega⟩
  rw[aM n i (by omega)]
  unfold uW
  cases hb:bad i with
  |true=>rfl
  |false=>
   exact Uh bad bF aM c (i+1) n (by omega) (by omega)
theorem yFq {p}:∀{c i x},uW p c i=some x→i≤x∧x<i+c∧p x=true∧∀j,i≤j→j<x→p j=false
 |c+1,i,x,h=>by
  unfold uW at h
  cases hp:p i with
  |true=>
   grind
  |false=>
   rw[hp] at h
   obtain⟨h1,h2,h3,h4⟩:=yFq h
   grind
theorem vCk {p}:∀{c i},uW p c i=none→∀j,i≤j→j<i+c→p j=false
 |0,_,_=>by grind
 |c+1,i,h=>by
  unfold uW at h
  cases hp:p i with
  |true=>
   simp_all
  |false=>
   rw[hp] at h
   intro j j1 j2
   by_cases e:j=i
   ·simp_all
   ·exact vCk h j (by omega) (by omega)
def vP (l:List zF)(id:Int):Option Nat:=uW (fun x=>decide ((l.getD x pd).1=id)) l.length 0
def jz (l:List zF)(id:Int):Int:=match vP l id with|some x=>(x:Int)|none=>-1
theorem j0 {l id x}(h:vP l id=some x):x<l.length∧(l.getD x pd).1=id:=by
 obtain⟨_,h2,h3,_⟩:=yFq h
 simp_all
theorem vTm {l id}(h:vP l id=none):∀p∈l,p.1≠id:=by
 intro p hp e
 obtain⟨i,hi,e'⟩:=List.getElem_of_mem hp
 have:=vCk h i (by omega) (by omega)
 simp_all
theorem MD {l p}(h:p∈l):∃x,vP l p.1=some x:=by
 cases e:vP l p.1 with
 |some x=>simp
 |none=>exact absurd rfl (vTm e p h)
theorem ME {k}{l:List zF}(hk:l.length<k)(hl:l.length<9223372036854775808) id:lY k l id=some (jz l id):=by
 have := Uh (L := fun n i => DE k n l id i) (N := l.length) (fun x => decide ((l.getD x pd).1 = id)) (fun n=>by
  show DF k _ l id l.length=_
  unfold DF
  simp) (fun n j hj=>by
  show DF k _ l id j=_
  unfold DF
  simp[qH,qJ hj hl,aa hj]) l.length 0 k (by omega) hk
 have h1:DE k k l id 0=some (Ug (vP l id)):=this
 unfold lY jz
 rw[h1]
 cases vP l id<;>rfl
theorem Iu {k}{l:List zF}(hk:l.length<k)(hl:l.length<9223372036854775808) id:nE k l id=some (jz l id):=by
 have := Uh (L := fun n i => DG k n l l.length i id) (N := l.length) (fun x => decide ((l.getD x pd).1 = id)) (fun n=>by
  show DH k _ l l.length l.length id=_
  unfold DH
  simp) (fun n j hj=>by
  show DH k _ l l.length j id=_
  unfold DH Ui
  simp only[qH,qJ hj hl,qG,aa hj]
  rfl) l.length 0 k (by omega) hk
 have h1:DG k k l l.length 0 id=some (Ug (vP l id)):=this
 unfold nE Uj jz
 rw[h1]
 cases vP l id<;>rfl
def yB (l:List zF)(x:Nat):List zF:=l.take x++l.drop (x+1)
theorem mP {l x}(h:x<l.length):(yB l x).length=l.length-1:=by
 unfold yB
 grind
theorem sR l x:List.Sublist (yB l x) l:=by
 unfold yB
 conv=>rhs;rw[←List.take_append_drop x l]
 grind
theorem qO.cut {l}(h:qO l) x:qO (yB l x):=List.Pairwise.sublist (sR l x) h
theorem vB5 k {l}{x:Nat}(hx:x<l.length)(hl:qV l):Iv k l x ((x+1:Nat):Int)=some (yB l x):=by
 unfold Iv
 have c1:(decide ((0:Int)≤(x:Int)))=true:=by simp
 have c2:decide ((x:Int)≤((x+1:Nat):Int))=true:=aa (by omega)
 have c3:decide (((x+1:Nat):Int)≤(l.length:Int))=true:=aa (by omega)
 have c4:decide ((l.length:Int)≤(l.length:Int))=true:=by simp
 have c5:decide ((x:Int)=((x+1:Nat):Int))=false:=ab (by omega)
 have c6:decide ((x:Int)≤(l.length:Int))=true:=aa (by omega)
 have c7:decide ((0:Int)≤((x+1:Nat):Int))=true:=aa (by omega)
 have c8:Nat.ble (x-0) (0+(x+1))=true:=by simp
 simp only[ao,c1,c2,c3,c4,c5,c6,c7,c8,ak]
 have e0:x-0+(l.length-(x+1))=l.length-1:=by omega
 have e1:List.take (x-0) l++qW l (0+(x+1)) (l.length-(x+1))=yB l x:=by
  unfold qW yB
  rw[Nat.sub_zero,Nat.zero_add]
  congr 1
  rw[List.take_of_length_le]
  rw[List.length_drop]
  exact Nat.le_refl _
 have e2:(qW (yB l x++List.drop (l.length-1) l) 0 (l.length-1))=yB l x:=by
  unfold qW
  rw[List.drop_zero,List.take_append_of_le_length (by rw[mP hx];exact Nat.le_refl _),List.take_of_length_le (by rw[mP hx];exact Nat.le_refl _)]
 have e3:(yB l x++List.drop (l.length-1) l).length=l.length:=by
  rw[List.length_append,List.length_drop,mP hx];omega
 have c9:decide ((0:Int)≤((yB l x).length:Int))=true:=by simp
 have MF:decide (((yB l x).length:Int)≤(l.length:Int))=true:=by grind
 have ze:decide ((l.length:Int)≤((l.length-0:Nat):Int))=true:=by simp
 have e4:List.take (0+(yB l x).length) (yB l x++List.drop (l.length-1) l)=yB l x:=by
  rw[Nat.zero_add,List.take_append_of_le_length (Nat.le_refl _),List.take_of_length_le (Nat.le_refl _)]
 simp only[e0,e1,e2,e3,c9,MF,ze,e4,Bool.and_true,aj]
 rw[List.append_assoc,List.take_append_of_le_length (by rw[mP hx];exact Nat.le_refl _),List.take_of_length_le (by rw[mP hx];exact Nat.le_refl _)]
def gH (l:List zF)(id:Int):List zF×Int×Int×Int×Int×Int×Int×Int×Int:=match vP l id with
 |some x=>(yB l x,(l.getD x pd).1,(l.getD x pd).2.1,(l.getD x pd).2.2.1,(l.getD x pd).2.2.2.1,(l.getD x pd).2.2.2.2.1,(l.getD x pd).2.2.2.2.2.1,(l.getD x pd).2.2.2.2.2.2,0)
 |none=>(l,0,0,0,0,0,0,0,4)
theorem zg {k l}(hk:l.length<k)(hl:qV l) id:oO k l id=some (gH l id):=by
 unfold qV at hl
 unfold oO
 rw[Iu hk (by omega)]
 unfold jz gH
 cases hp:vP l id with
 |none=>rfl
 |some x=>
  have hx:=(j0 hp).1
  have e1:decide ((x:Int)<0)=false:=by simp
  have e2:uX k l=some l:=by
   unfold uX
   rw[qT (by omega) (by omega)]
   rfl
  simp only[af,e1,ak,e2,qJ hx (by grind),vB5 k hx hl,qH,aa hx,aj,ao]
def wW (q p:zF):Bool:=decide (q.2.1<p.2.1)||(decide (q.2.1=p.2.1)&&decide (q.2.2.2.2.1≤p.2.2.2.2.1))
def iS (q p:zF):Bool:=decide (q.2.1<p.2.1)||(decide (q.2.1=p.2.1)&&decide (q.2.2.2.2.1<p.2.2.2.2.1))
theorem Uk (n:Nat)(x y:Int):MG (n+3) [x,y]=some (if x=0 then y else x):=by
 have key:∀n:Nat,DI (n+3) (n+3) 0 [x,y] 2 0=bif !decide (x=0) then some (.inr x) else bif !decide (y=0) then some (.inr y) else some (.inl 0):=fun n=>rfl
 unfold MG
 show(DI (n+3) (n+3) 0 [x,y] 2 0).bind _=_
 rw[key]
 by_cases h:x=0
 ·rw[aa h,if_pos h]
  by_cases h2:y=0
  ·rw[aa h2,h2];rfl
  ·rw[ab h2];rfl
 ·rw[ab h,if_neg h];rfl
theorem vYd (k:Nat)(a b:Int):Iw k a b=some (if a<b then-1 else if a>b then 1 else 0):=by
 unfold Iw MH
 have e:∀x:Int,decide (x=x)=true:=fun x=>aa rfl
 simp only[e,aA,af,ak]
 by_cases h:a<b
 ·rw[aa h,if_pos h];rfl
 ·rw[ab h,if_neg h]
  by_cases h2:a>b
  ·rw[aa h2,if_pos h2];rfl
  ·rw[ab h2,if_neg h2];rfl
theorem yHx {k:Nat}(hk:3≤k)(q p:zF):∃x,DJ k q.1 q.2.1 q.2.2.1 q.2.2.2.1 q.2.2.2.2.1 q.2.2.2.2.2.1 q.2.2.2.2.2.2 p.1 p.2.1 p.2.2.1 p.2.2.2.1 p.2.2.2.2.1 p.2.2.2.2.2.1 p.2.2.2.2.2.2=some x∧decide (x≤0)=wW q p∧decide (x<0)=iS q p:=by
 obtain⟨n,rfl⟩:∃n,k=n+3:=⟨k-3,by omega⟩
 unfold DJ
 simp only[vYd,af,Uk]
 refine⟨_,rfl,?_,?_⟩
 ·unfold wW
  rcases Int.lt_trichotomy q.2.1 p.2.1 with h|h|h
  ·simp[h]
  ·rcases Int.lt_trichotomy q.2.2.2.2.1 p.2.2.2.2.1 with g|g|g
   ·simp[h,g,Int.le_of_lt g]
   ·simp[h,g]
   ·have g1:¬q.2.2.2.2.1<p.2.2.2.2.1:=by omega
    have g2:¬q.2.2.2.2.1≤p.2.2.2.2.1:=by omega
    simp[h,g1,g2,g]
  ·have h1:¬q.2.1<p.2.1:=by omega
   have h2:¬q.2.1=p.2.1:=by omega
   simp[h1,h2,h]
 ·unfold iS
  rcases Int.lt_trichotomy q.2.1 p.2.1 with h|h|h
  ·simp[h]
  ·rcases Int.lt_trichotomy q.2.2.2.2.1 p.2.2.2.2.1 with g|g|g
   ·simp[h,g]
   ·simp[h,g]
   ·have g1:¬q.2.2.2.2.1<p.2.2.2.2.1:=by omega
    simp[h,g1,g]
  ·have h1:¬q.2.1<p.2.1:=by omega
   have h2:¬q.2.1=p.2.1:=by omega
   simp[h1,h2,h]
def Ix (ok:Nat→Bool):Nat→Nat→Nat
 |0,i=>i
 |c+1,i=>bif ok i then Ix ok c (i+1) else i
theorem DK {X:Type}{L:Nat→Int→Option X}{N:Nat}(ok:Nat→Bool)(e:Nat→X)(bF:∀n,L (n+1) (N:Int)=some (e N))
  (aM:∀n i,i<N→L (n+1) (i:Int)=bif ok i then L n ((i+1:Nat):Int) else some (e i)):∀c i n,i+c=N→c<n→L n (i:Int)=some (e (Ix ok c i))
 |0,i,n,h,hn=>by
  obtain⟨n,rfl⟩:∃m,n=m+1:=⟨n-1,by omega⟩
  have:i=N:=by omega
  subst this
  exact bF n
 |c+1,i,n,h,hn=>by
  obtain⟨n,rfl⟩:∃m,n=m+1:=⟨n-1,by omega⟩
  rw[aM n i (by omega)]
  unfold Ix
  cases ok i with
  |false=>rfl
  |true=>exact DK ok e bF aM c (i+1) n (by omega) (by omega)
theorem DL {α:Type}(f:α→Bool)(l:List α)(d:α):∀c i,i+c=l.length→Ix (fun x=>f (l.getD x d)) c i=i+((l.drop i).takeWhile f).length
 |0,i,h=>by
  rw[List.drop_eq_nil_of_le (by omega)]
  rfl
 |c+1,i,h=>by
  rw[List.drop_eq_getElem_cons (show i<l.length by omega)]
  unfold Ix
  have e:l.getD i d=l[i]:=by rw[List.getD_eq_getElem?_getD,List.getElem?_eq_getElem (by omega)];rfl
  rw[e]
  cases hf:f l[i] with
  |false=>rw[List.takeWhile_cons_of_neg (by simp[hf])];rfl
  |true=>
   rw[List.takeWhile_cons_of_pos hf,aj,DL f l d c (i+1) (by omega),List.length_cons]
   omega
theorem mQ {α:Type}(f:α→Bool)(l:List α):l.take (l.takeWhile f).length=l.takeWhile f∧l.drop (l.takeWhile f).length=l.dropWhile f:=by
 have e:=List.takeWhile_append_dropWhile (p:=f) (l:=l)
 have h1:(l.takeWhile f++l.dropWhile f).take (l.takeWhile f).length=l.takeWhile f:=List.take_left
 have h2:(l.takeWhile f++l.dropWhile f).drop (l.takeWhile f).length=l.dropWhile f:=List.drop_left
 rw[e] at h1 h2
 exact⟨h1,h2⟩
theorem zh {α:Type}(f:α→Bool)(l:List α):(l.takeWhile f).length≤l.length:=(List.takeWhile_sublist f).length_le
theorem Ul {α:Type}{b:Nat}(f:α→Bool)(l:List α)(p:α)(hl:l.length≤1000)(hb:b≤1000):ins b l (((l.takeWhile f).length:Nat):Int) [p]=some (l.takeWhile f++(p::l.dropWhile f)):=by
 unfold ins
 have h:=zh f l
 have hm:(l.length+1)*b≤1001*1000:=Nat.mul_le_mul (by omega) hb
 rw[aa (show(0:Int)≤((l.takeWhile f).length:Int) by omega),aa (show((l.takeWhile f).length:Int)≤(l.length:Int) by omega),qT (show(l.length+1)*b≤140737488355328 by omega) (by omega),ao,(mQ f l).1,(mQ f l).2]
 rfl
def nF (l:List zF)(p:zF):List zF:=l.takeWhile (fun q=>wW q p)++(p::l.dropWhile (fun q=>wW q p))
def Iy (l:List zF)(p:zF):List zF:=l.takeWhile (fun q=>iS q p)++(p::l.dropWhile (fun q=>iS q p))
theorem yWe {k:Nat}{l:List zF}(hl:qV l):uX k l=some l:=by
 unfold qV at hl
 unfold uX
 rw[qT (by omega) (by omega)]
 rfl
theorem vN7 {k:Nat}(hk:3≤k)(l:List zF)(hl:qV l)(bI:l.length<k)(p:zF):DM k k l 0 p=some (l,(((l.takeWhile (fun q=>wW q p)).length:Nat):Int),p):=by
 unfold qV at hl
 have := DK (L := fun n i => DM k n l i p) (N := l.length) (fun x => wW (l.getD x pd) p) (fun i => (l, (i : Int), p)) (fun n=>by
  show DN k _ l l.length p=_
  unfold DN
  simp only [qG, ab (Nat.lt_irrefl _), ak]) (fun n i hi=>by
  show DN k _ l i p=_
  unfold DN
  obtain⟨x,h1,h2,_⟩:=yHx hk (l.getD i pd) p
  simp only[pd] at h1
  simp only[qH,qG,ao,aa hi,aj,h1,af,h2,qJ hi (show l.length<9223372036854775808 by omega)]
  cases wW (l.getD i pd) p<;>rfl) l.length 0 k (by omega) bI
 have e:((0:Nat):Int)=0:=rfl
 rw[e] at this
 show DM k k l 0 p=_
 rw[this,DL (fun q=>wW q p) l pd l.length 0 (by omega),List.drop_zero,Nat.zero_add]
theorem Um {k:Nat}{l:List zF}(hk:3≤k)(bI:l.length<k)(hl:qV l)(p:zF):
  uY k l p=some (bif (vP l p.1).isSome then(l,6) else bif decide (40≤l.length) then(l,3) else(nF l p,0)):=by
 have dG:=hl
 unfold qV at hl
 unfold uY
 rw[Iu bI (by omega)]
 unfold jz
 cases hp:vP l p.1 with
 |some x=>
  have e1:decide ((x:Int)≥0)=true:=aa (by omega)
  simp only[af,e1,aj,Option.isSome_some]
 |none=>
  have e1:decide ((-1:Int)≥0)=false:=rfl
  simp only[af,e1,ak,Option.isSome_none]
  by_cases h:40≤l.length
  ·rw[aa h,aa (show(l.length:Int)≥40 by omega)];rfl
  ·rw[ab h,ab (show¬(l.length:Int)≥40 by omega)]
   simp only[ak,vN7 hk l dG bI,af,yWe dG,MI]
   rw[Ul _ l p hl (by decide)]
   rfl
theorem Un {l:List zF}{x:Nat}(h:qV l):qV (yB l x):=by
 unfold qV at*
 have:=(sR l x).length_le
 omega
def Iz (l:List zF)(id:Int):List zF:=match vP l id with|some x=>yB l x|none=>l
theorem yGg {l:List zF}{id:Int}(hd:qO l):vP (Iz l id) id=none:=by
 cases h:vP (Iz l id) id with
 |none=>rfl
 |some y=>
  exfalso
  obtain⟨h1,h2⟩:=j0 h
  unfold Iz at h h1 h2
  cases hp:vP l id with
  |none=>
   rw[hp] at h
   rw[hp] at h;cases h
  |some x=>
   rw[hp] at h1 h2
   obtain⟨h3,h4⟩:=j0 hp
   have hm:=jK (d:=pd) h1
   have e:=Ir l x pd h3
   unfold qO at hd
   rw[e] at hd
   have IA:=List.pairwise_append.1 hd
   have Uo:=List.pairwise_cons.1 IA.2.1
   simp only at h1 h2 hm
   unfold yB at hm
   rcases List.mem_append.1 hm with hm|hm
   ·exact IA.2.2 _ hm _ (List.mem_cons_self ..) (h2.trans h4.symm)
   ·exact Uo.1 _ hm (h4.trans h2.symm)
theorem vVs {k:Nat}{l:List zF}(hk:3≤k)(bI:l.length<k)(hl:qV l)(hd:qO l)(h40:l.length≤40){id:Int}{x:Nat}(hx:vP l id=some x)(c:Int):
  DO k l id c=some (nF (yB l x) ((l.getD x pd).1,(l.getD x pd).2.1,(l.getD x pd).2.2.1,(l.getD x pd).2.2.2.1,c,(l.getD x pd).2.2.2.2.2.1,(l.getD x pd).2.2.2.2.2.2),0):=by
 have cM:=j0 hx
 have hw:=yGg (id:=id) hd
 unfold Iz at hw
 rw[hx] at hw
 have hlen:=mP cM.1
 unfold DO
 rw[zg bI hl]
 unfold gH
 rw[hx]
 simp only[af,decide_true,aA,ak]
 rw[Um hk (by omega) (Un hl)]
 simp only[cM.2,hw,Option.isSome_none,ak,ab (show¬40≤(yB l x).length by omega),af]
theorem vN3 {k:Nat}{l:List zF}(hk:3≤k)(bI:l.length<k)(hl:qV l)(hd:qO l)(h40:l.length≤40){id:Int}{x:Nat}(hx:vP l id=some x):
  DP k l id=some (nF (yB l x) (l.getD x pd),0):=by
 have cM:=j0 hx
 have hw:=yGg (id:=id) hd
 unfold Iz at hw
 rw[hx] at hw
 have hlen:=mP cM.1
 unfold DP
 rw[zg bI hl]
 unfold gH
 rw[hx]
 simp only[af,decide_true,aA,ak]
 rw[Um hk (by omega) (Un hl)]
 simp only[cM.2,hw,Option.isSome_none,ak,ab (show¬40≤(yB l x).length by omega),af]
 simp only[DQ]
 rw[←cM.2]
theorem vXm {k:Nat}(hk:3≤k)(l:List zF)(hl:qV l)(bI:l.length<k)(p:zF):DR k k 0 l p=some ((((l.takeWhile (fun q=>iS q p)).length:Nat):Int),l,p):=by
 unfold qV at hl
 have := DK (L := fun n i => DR k n i l p) (N := l.length) (fun x => iS (l.getD x pd) p) (fun i => ((i : Int), l, p)) (fun n=>by
  show DS k _ l.length l p=_
  unfold DS
  simp only [qG, ab (Nat.lt_irrefl _), ak]) (fun n i hi=>by
  show DS k _ i l p=_
  unfold DS
  obtain⟨x,h1,_,h2⟩:=yHx hk (l.getD i pd) p
  simp only[pd] at h1
  simp only[qH,qG,ao,aa hi,aj,h1,af,h2,qJ hi (show l.length<9223372036854775808 by omega)]
  cases iS (l.getD i pd) p<;>rfl) l.length 0 k (by omega) bI
 have e:((0:Nat):Int)=0:=rfl
 rw[e] at this
 show DR k k 0 l p=_
 rw[this,DL (fun q=>iS q p) l pd l.length 0 (by omega),List.drop_zero,Nat.zero_add]
theorem vFl {k:Nat}{l:List zF}(hk:3≤k)(bI:l.length<k)(hl:qV l){id:Int}{x:Nat}(hx:vP l id=some x):
  DT k l id=some (Iy (yB l x) (l.getD x pd),0):=by
 have dG:=hl
 unfold qV at hl
 have cM:=j0 hx
 have hlen:=mP cM.1
 have e1:decide ((x:Int)<0)=false:=ab (by omega)
 unfold DT Uq
 rw[Iu bI (by omega)]
 unfold jz
 rw[hx]
 simp only[af,e1,ak,yWe dG,qJ cM.1 (show l.length<9223372036854775808 by omega),vB5 k cM.1 dG,qH,aa cM.1,aj,ao]
 have e0:decide ((0:Int)=0)=true:=rfl
 simp only[eX,DQ,e0,aA,ak]
 rw[vXm hk (yB l x) (Un dG) (by omega)]
 simp only[af,MI]
 rw[Ul _ (yB l x) _ (by omega) (by decide)]
 rfl
def jB (l:AC)(id:Int):Nat:=(l.takeWhile (fun x=>decide (x<id))).length
theorem vZa {x:Int}(h0:0≤x)(h1:x<9223372036854775808):zA (shr .u64 (IntKind.wrap .u64 (zA x)) 1)=x/2:=by
 have e1:zA x=x:=zR (by omega) h1
 have e2:IntKind.wrap .u64 x=x:=by
  unfold IntKind.wrap
  simp only[IntKind.bits,IntKind.signed,Bool.false_and,Bool.false_eq_true,if_false]
  omega
 rw[e1,e2]
 have e3:shr .u64 x 1=x/2:=by
  unfold shr
  have:(2:Int)^(min (1:Int).toNat (IntKind.bits .u64))=2:=by decide
  rw[this,Int.fdiv_eq_ediv_of_nonneg _ (by omega)]
 rw[e3]
 exact zR (by omega) (by omega)
theorem Ur (k:Nat)(a b:Int):MJ k a b=some (decide (a<b)):=by
 unfold MJ MK
 simp only[decide_true,aA,af,ak]
theorem Us {k:Nat}{l:AC}{id:Int}(hl:l.length≤1000){c:Nat}(hc:c≤l.length)(h1:∀x,x<c→l.getD x 0<id)(h2:∀x,c≤x→x<l.length→id≤l.getD x 0)(s6:Int):
  ∀(n i j:Nat),i≤c→c≤j→j≤l.length→j-i<n→IB k n l id s6 i j=some (l,id,s6,(c:Int))
 |0,_,_,_,_,_,h=>absurd h (Nat.not_lt_zero _)
 |n+1,i,j,hi,hj,xI,hn=>by
  show ML k (IB k n) l id s6 i j=_
  unfold ML
  rw[qG]
  by_cases mw:i<j
  ·have hh:zA (shr .u64 (IntKind.wrap .u64 (zA ((i:Int)+(j:Int)))) 1)=(((i+j)/2:Nat):Int):=by
    rw[vZa (by omega) (by omega)];omega
   have hm:(i+j)/2<l.length:=by omega
   rw[aa mw,aj,hh,qH,aa hm,aj,Ur]
   simp only[af,ao]
   by_cases bd:(i+j)/2<c
   ·rw[aa (h1 _ bd),aj,qJ hm (by omega)]
    exact Us hl hc h1 h2 s6 n _ j (by omega) hj xI (by omega)
   ·have:=h2 _ (Nat.not_lt.1 bd) hm
    rw[ab (show¬l.getD ((i+j)/2) 0<id by omega),ak]
    exact Us hl hc h1 h2 s6 n i _ hi (by omega) (by omega) (by omega)
  ·rw[ab mw,ak]
   have:i=c:=by omega
   rw[this]
theorem vS0 {k:Nat}{l:AC}{id:Int}(bI:l.length<k)(hl:l.length≤1000){c:Nat}(hc:c≤l.length)(h1:∀x,x<c→l.getD x 0<id)(h2:∀x,c≤x→x<l.length→id≤l.getD x 0):
  DU k l id=some ((c:Int),decide (c<l.length)&&decide (l.getD c 0=id)):=by
 unfold DU
 have:=Us (k:=k) hl hc h1 h2 (l.length:Int) k 0 l.length (by omega) hc (Nat.le_refl _) (by omega)
 rw[show((0:Nat):Int)=0 from rfl] at this
 rw[this]
 simp only[af,qG,qH,ao]
 by_cases h:c<l.length
 ·simp only[aa h,aj,Bool.true_and]
  by_cases h3:l.getD c 0=id
  ·rw[aa h3];rfl
  ·rw[ab h3]
   unfold MM
   simp only[decide_true,ak,af,aA]
 ·simp only[ab h,ak,Bool.false_and]
def uZ (l:AC):Prop:=List.Pairwise (fun a b=>a<b) l
theorem yKa {l:AC}{id:Int}:∀x,x<jB l id→l.getD x 0<id:=by
 intro x hx
 unfold jB at hx
 have h:=mQ (fun x=>decide (x<id)) l
 have e:l.getD x 0=(l.takeWhile (fun x=>decide (x<id))).getD x 0:=by
  rw[←h.1,List.getD_eq_getElem?_getD,List.getD_eq_getElem?_getD,List.getElem?_take,if_pos hx]
 rw[e]
 have hm:=jK (d:=(0:Int)) hx
 have:=List.all_eq_true.1 (List.all_takeWhile (p:=fun x=>decide (x<id)) (l:=l)) _ hm
 simpa using this
theorem yYh {l:AC}(ha:uZ l){id:Int}:∀x,jB l id≤x→x<l.length→id≤l.getD x 0:=by
 intro x hx hl
 have hi:jB l id<l.length:=by omega
 have h:=mQ (fun x=>decide (x<id)) l
 have h0:¬l.getD (jB l id) 0<id:=by
  have hd:l.drop (jB l id)=l[jB l id]::l.drop (jB l id+1):=List.drop_eq_getElem_cons hi
  have h2:=h.2
  unfold jB at hd
  rw[h2] at hd
  have bm:l.dropWhile (fun x=>decide (x<id))≠[]:=by rw[hd];simp
  have:=List.head_dropWhile_not (fun x=>decide (x<id)) bm
  have e:(l.dropWhile (fun x=>decide (x<id))).head bm=l[jB l id]:=by
   unfold jB
   simp only[hd,List.head_cons]
  rw[e] at this
  rw[List.getD_eq_getElem?_getD,List.getElem?_eq_getElem hi]
  simpa using this
 by_cases e:x=jB l id
 ·rw[e];omega
 ·have:=List.pairwise_iff_getElem.1 ha (jB l id) x hi hl (by omega)
  rw[List.getD_eq_getElem?_getD,List.getElem?_eq_getElem hl]
  rw[List.getD_eq_getElem?_getD,List.getElem?_eq_getElem hi] at h0
  simp only[Option.getD_some] at h0⊢
  omega
theorem vO5 {l:AC}(ha:uZ l)(id:Int):(decide (jB l id<l.length)&&decide (l.getD (jB l id) 0=id))=decide (id∈l):=by
 by_cases hm:id∈l
 ·obtain⟨x,hx,e⟩:=List.getElem_of_mem hm
  have e':l.getD x 0=id:=by rw[List.getD_eq_getElem?_getD,List.getElem?_eq_getElem hx];exact e
  have h1:¬x<jB l id:=fun h=>by have:=yKa x h;omega
  have h3:jB l id<l.length:=by omega
  have h4:¬jB l id<x:=fun h=>by
   have g1:=yYh ha (id:=id) (jB l id) (Nat.le_refl _) h3
   have g2:=List.pairwise_iff_getElem.1 ha (jB l id) x h3 hx h
   rw[List.getD_eq_getElem?_getD,List.getElem?_eq_getElem h3] at g1
   simp only[Option.getD_some] at g1
   omega
  have h5:jB l id=x:=by omega
  rw[aa hm,aa h3,h5,aa e'];rfl
 ·rw[ab hm]
  by_cases h:jB l id<l.length
  ·rw[ab (show¬l.getD (jB l id) 0=id from fun e=>hm (e▸jK h)),Bool.and_false]
  ·rw[ab h];rfl
def oP (l:AC)(id:Int):AC:=l.takeWhile (fun x=>decide (x<id))++(id::l.dropWhile (fun x=>decide (x<id)))
theorem vTn {k:Nat}{l:AC}(bI:l.length<k)(hl:l.length≤1000)(ha:uZ l)(id:Int):DU k l id=some ((jB l id:Int),decide (id∈l)):=by
 rw[vS0 bI hl (zh _ l) yKa (yYh ha)]
 show some ((jB l id:Int),decide (jB l id<l.length)&&decide (l.getD (jB l id) 0=id))=_
 rw[vO5 ha]
theorem vR2 {k:Nat}{l:AC}(bI:l.length<k)(hl:l.length≤1000)(ha:uZ l)(id:Int):
  DV k l id=some (bif decide (id∈l) then(l,6) else bif decide (200≤l.length) then(l,3) else(oP l id,0)):=by
 unfold DV
 rw[vTn bI hl ha]
 simp only[af]
 by_cases hm:id∈l
 ·rw[aa hm];rfl
 ·rw[ab hm]
  simp only[ak]
  by_cases h:200≤l.length
  ·rw[aa h,aa (show(l.length:Int)≥200 by omega)];rfl
  ·rw[ab h,ab (show¬(l.length:Int)≥200 by omega)]
   have e2:oL k l=some l:=by
    unfold oL
    rw[qT (by omega) (by omega)]
    rfl
   simp only[ak,e2,af,yNv]
   unfold jB
   rw[Ul _ l id hl (by decide)]
   rfl
def ky (l:AC):Int:=zP (fun x=>x) l
def DW (x:Int):Bool:=decide (-9223372036854775808≤x)&&decide (x<9223372036854775808)
theorem yJ4 x:shr .i64 x 63=x/9223372036854775808:=by
 show x.fdiv (2^(min 63 64))=_
 grind
theorem oQ x:IntKind.wrap .u64 x=x%18446744073709551616:=by
 rfl
theorem vMe {x}(h:0≤x∧x<18446744073709551616):zA x=if x<9223372036854775808 then x else x-18446744073709551616:=by
 unfold zA IntKind.wrap
 simp[IntKind.bits,IntKind.signed]
 grind
theorem vR7 (l:AC) i (hi:i<l.length):ky (l.take (i+1))=ky (l.take i)+l.getD i 0:=by
 have:l.take (i+1)=l.take i++[l.getD i 0]:=by
  simp_all
 unfold ky
 rw[this,lh]
 simp[zP]
theorem Ut {k l}(hk:l.length<k)(hl:l.length≤1000000)(hw:∀i,i<l.length→-9223372036854775808≤l.getD i 0∧l.getD i 0<9223372036854775808):
  IC k l=some (bif DW (ky l) then(ky l,true) else(0,false)):=by
 obtain ⟨s', g1, g2, g3, g4⟩ := yZ (L := fun n i (s : Int × Int) => DX k n s.1 s.2 l (l.length : Int) i) (N := l.length) (fun s => (s.1, s.2)) (fun i s => (0 ≤ s.2 ∧ s.2 < 18446744073709551616) ∧ s.1 * 18446744073709551616 + s.2 = ky (l.take i) ∧ (-(i : Int) ≤ s.1 ∧ s.1 ≤ i)) (fun n s _=>by
  show DY k _ s.1 s.2 l l.length l.length=_
  unfold DY
  simp only [qG, ab (Nat.lt_irrefl _), ak]) (fun n i s hi hs=>by
  obtain⟨h,lo⟩:=s
  obtain⟨⟨h1,h2⟩,h3,h4⟩:=hs
  simp only at h1 h2 h3 h4
  show∃s',DY k _ h lo l l.length i=_∧_
  unfold DY Cq
  have hb:=hw i hi
  have hsn:=vR7 l i hi
  obtain⟨v,hv⟩:∃v,l.getD i 0=v:=⟨_,rfl⟩
  rw[hv] at hb hsn
  simp only[qG,qH,ao,aa hi,aj,hv,oQ,yJ4,decide_true,af,qJ hi (show l.length<9223372036854775808 by omega)]
  obtain⟨u,hu⟩:∃u,v%18446744073709551616=u:=⟨_,rfl⟩
  rw[hu]
  obtain⟨q,hq⟩:∃q,v/9223372036854775808=q:=⟨_,rfl⟩
  rw[hq]
  have pI:u=v-q*18446744073709551616:=by omega
  have nG:q=0∨q= -1:=by omega
  obtain⟨a,ha⟩:∃a:Nat,lo.toNat+u.toNat+0=a:=⟨_,rfl⟩
  rw[ha]
  have nk:(a:Int)=lo+u:=by omega
  obtain⟨c,hc⟩:∃c:Nat,a/18446744073709551616=c:=⟨_,rfl⟩
  obtain⟨m,hm⟩:∃c:Nat,a%18446744073709551616=c:=⟨_,rfl⟩
  rw[hc,hm]
  have Tb:a=c*18446744073709551616+m:=by omega
  have uI:m<18446744073709551616:=by omega
  have kM:c≤1:=by omega
  have e1:zA (Int.ofNat c)=(c:Int):=zR (by show(_:Int)≤((c:Nat):Int);omega) (by show((c:Nat):Int)<_;omega)
  have e2:zA (q+(c:Int))=q+c:=zR (by omega) (by omega)
  have e3:zA (h+(q+(c:Int)))=h+(q+c):=zR (by omega) (by omega)
  rw[e1,e2,e3]
  refine⟨(h+(q+c),(m:Int)),rfl,by grind,?_,?_⟩
  ·rw[hsn]
   show(h+(q+c))*18446744073709551616+(m:Int)=_
   omega
  ·show-((i+1:Nat):Int)≤h+(q+c)∧h+(q+c)≤((i+1:Nat):Int)
   omega) (s:=(0,0)) hk ⟨⟨by show(0:Int)≤0;omega,by show(0:Int)<_;omega⟩,rfl,by show-((0:Nat):Int)≤0;omega,by show(0:Int)≤((0:Nat):Int);omega⟩
 have sS:DX k k 0 0 l (l.length:Int) 0=some (s'.1,s'.2):=g1
 rw[List.take_length] at g3
 unfold IC
 rw[sS]
 simp only[af,yJ4]
 rw[vMe g2]
 by_cases c:DW (ky l)=true
 ·have c':-9223372036854775808≤ky l∧ky l<9223372036854775808:=by simpa[DW] using c
  rw[c]
  by_cases d:s'.2<9223372036854775808
  ·rw[if_pos d,aa (show s'.1=s'.2/9223372036854775808 by omega)]
   simp only[aA,ak,aj]
   rw[show s'.2=ky l by omega]
  ·rw[if_neg d,aa (show s'.1=(s'.2-18446744073709551616)/9223372036854775808 by omega)]
   simp only[aA,ak,aj]
   rw[show s'.2-18446744073709551616=ky l by omega]
 ·have c':¬(-9223372036854775808≤ky l∧ky l<9223372036854775808):=by simpa[DW] using c
  rw[Bool.not_eq_true] at c
  rw[c]
  by_cases d:s'.2<9223372036854775808
  ·rw[if_pos d,ab (show¬s'.1=s'.2/9223372036854775808 by omega)]
   rfl
  ·rw[if_neg d,ab (by grind)]
   rfl
theorem Uu {x:Int}(h:0≤x):yJ .u64 x 4294967295=x%4294967296:=by
 obtain⟨n,rfl⟩:=Int.eq_ofNat_of_zero_le h
 unfold yJ rI
 rw[oQ]
 have e1:(BitVec.ofInt IntKind.u64.bits (n:Int)&&&BitVec.ofInt IntKind.u64.bits 4294967295).toNat=n%4294967296:=by
  rw[BitVec.toNat_and,BitVec.toNat_ofInt,BitVec.toNat_ofInt]
  have e2:((4294967295:Int)%((2^IntKind.u64.bits:Nat):Int)).toNat=2^32-1:=by decide
  rw[e2,Nat.and_two_pow_sub_one_eq_mod]
  have e3:((n:Int)%((2^IntKind.u64.bits:Nat):Int)).toNat=n%18446744073709551616:=by
   show((n:Int)%((18446744073709551616:Nat):Int)).toNat=_
   omega
  rw[e3]
  show n%18446744073709551616%4294967296=_
  omega
 rw[e1]
 omega
theorem Uv (x:Int):shr .u64 x 32=x/4294967296:=by
 show x.fdiv (2^(min 32 64))=_
 rw[Int.fdiv_eq_ediv_of_nonneg _ (by decide)]
 rfl
theorem vQj {a1 a0 b1 b0:Int}:(a1*4294967296+a0)*(b1*4294967296+b0)=a1*b1*18446744073709551616+(a1*b0+a0*b1)*4294967296+a0*b0:=by
 rw[Int.add_mul,Int.mul_add,Int.mul_add]
 have e1:a1*4294967296*(b1*4294967296)=a1*b1*18446744073709551616:=by
  rw[Int.mul_assoc,←Int.mul_assoc 4294967296 b1,Int.mul_comm 4294967296 b1,Int.mul_assoc b1,←Int.mul_assoc];rfl
 have e2:a1*4294967296*b0=a1*b0*4294967296:=by rw[Int.mul_assoc,Int.mul_comm 4294967296 b0,←Int.mul_assoc]
 have e3:a0*(b1*4294967296)=a0*b1*4294967296:=by rw[←Int.mul_assoc]
 rw[e1,e2,e3]
 omega
theorem wB {a b A B:Int}(h0:0≤a)(h1:a≤A)(g0:0≤b)(g1:b≤B):0≤a*b∧a*b≤A*B:=
 ⟨Int.mul_nonneg h0 g0,Int.mul_le_mul h1 g1 g0 (by omega)⟩
theorem yJ6 (k:Nat){x y:Int}(hx:0≤x∧x<18446744073709551616)(hy:0≤y∧y<18446744073709551616):ID k x y=some (x*y/18446744073709551616,x*y%18446744073709551616):=by
 unfold ID
 simp only[Uv,Uu hx.1,Uu hy.1,oQ]
 obtain⟨a1,h1⟩:∃a,x/4294967296=a:=⟨_,rfl⟩
 obtain⟨a0,h0⟩:∃a,x%4294967296=a:=⟨_,rfl⟩
 obtain⟨b1,g1⟩:∃a,y/4294967296=a:=⟨_,rfl⟩
 obtain⟨b0,g0⟩:∃a,y%4294967296=a:=⟨_,rfl⟩
 have hxe:x=a1*4294967296+a0:=by omega
 have hye:y=b1*4294967296+b0:=by omega
 rw[h1,h0,g1,g0]
 have zi:0≤a1∧a1≤4294967295:=by omega
 have mz:0≤a0∧a0≤4294967295:=by omega
 have gC:0≤b1∧b1≤4294967295:=by omega
 have MN:0≤b0∧b0≤4294967295:=by omega
 have p11:=wB zi.1 zi.2 gC.1 gC.2
 have sD:=wB zi.1 zi.2 MN.1 MN.2
 have p01:=wB mz.1 mz.2 gC.1 gC.2
 have p00:=wB mz.1 mz.2 MN.1 MN.2
 have Me:x*y=a1*b1*18446744073709551616+(a1*b0+a0*b1)*4294967296+a0*b0:=by rw[hxe,hye,vQj]
 rw[Me]
 generalize a1*b1=u at*
 generalize a1*b0=v at*
 generalize a0*b1=s at*
 generalize a0*b0=t at*
 have c1:(t%18446744073709551616)=t:=by omega
 have c2:(v%18446744073709551616+t/4294967296)%18446744073709551616=v+t/4294967296:=by omega
 rw[c1,c2]
 have IE:yJ .u64 (v+t/4294967296) 4294967295=(v+t/4294967296)%4294967296:=Uu (by omega)
 rw[IE]
 refine congrArg some (Prod.ext ?_ ?_)
 ·show _%_=_/_
  omega
 ·rfl
theorem vSm (k:Nat){x:Int}(hx:0≤x∧x<18446744073709551616):MO k 0 x 10000=some (x/10000,x%10000):=by
 unfold MO
 have e1:decide ((10000:Int)=0)=false:=rfl
 have e2:decide ((10000:Int)≤0)=false:=rfl
 simp only[e1,e2,decide_true,ak,aj,bM,oQ]
 rw[Int.tdiv_eq_ediv_of_nonneg hx.1,Int.tmod_eq_emod_of_nonneg hx.1]
 have:x/10000%18446744073709551616=x/10000:=by omega
 rw[this]
def sU (price many cut:Int):Int:=price*many*(10000-cut)/10000
theorem yLf {p m c:Int}(hp:0≤p∧p≤1048576)(hm:0≤m∧m≤1099511627776)(hc:0≤c∧c≤10000):0≤sU p m c∧sU p m c≤1152921504606846976:=by
 have h1:=wB hp.1 hp.2 hm.1 hm.2
 have h2:=wB h1.1 h1.2 (show 0≤10000-c by omega) (show 10000-c≤10000 by omega)
 unfold sU
 generalize p*m*(10000-c)=z at*
 omega
theorem vRd (k:Nat){p m c:Int}(hp:0≤p∧p≤1048576)(hm:0≤m∧m≤1099511627776)(hc:0≤c∧c≤10000):MP k p m c=some (sU p m c,true):=by
 unfold MP Uw
 have w1:zA (10000-c)=10000-c:=zR (by omega) (by omega)
 have e1:decide (p<0)=false:=ab (by omega)
 have e2:decide (m<0)=false:=ab (by omega)
 have e3:decide (c≥0)=true:=aa (by omega)
 have e4:decide (c≤10000)=true:=aa (by omega)
 have u1:p%18446744073709551616=p:=by omega
 have u2:m%18446744073709551616=m:=by omega
 have u3:(10000-c)%18446744073709551616=10000-c:=by omega
 have h1:=wB hp.1 hp.2 hm.1 hm.2
 have hP:p*m/18446744073709551616=0:=by omega
 have hP2:p*m%18446744073709551616=p*m:=by omega
 have t0:Int.tmod 0 10000=0:=by simp
 have t1:Int.tdiv 0 10000=0:=by simp
 rw[e1,e2,e3,e4,ak,ak,aj,af,aA,ak,oQ p,oQ m,u1,u2,yJ6 k (show 0≤p∧p<18446744073709551616 by omega) (show 0≤m∧m<18446744073709551616 by omega),af,hP,hP2]
 dsimp only
 rw[t0,t1,vSm k (show 0≤p*m∧p*m<18446744073709551616 by omega),af]
 dsimp only
 rw[w1,oQ (10000-c),u3]
 unfold sU
 obtain⟨l,hl⟩:∃l,10000-c=l:=⟨_,rfl⟩
 rw[hl]
 obtain⟨P,hPe⟩:∃P,p*m=P:=⟨_,rfl⟩
 rw[hPe] at h1⊢
 have dG:0≤l∧l≤10000:=by omega
 rw[yJ6 k (show 0≤P/10000∧P/10000<18446744073709551616 by omega) (show 0≤l∧l<18446744073709551616 by omega)]
 have hq:=wB (show 0≤P/10000 by omega) (show P/10000≤115292150460684 by omega) dG.1 dG.2
 have hr:=wB (show 0≤P%10000 by omega) (show P%10000≤9999 by omega) dG.1 dG.2
 have zj:P*l=P/10000*l*10000+P%10000*l:=by
  have:P=P/10000*10000+P%10000:=by omega
  have e:P/10000*l*10000=P/10000*10000*l:=by rw[Int.mul_assoc,Int.mul_comm l,←Int.mul_assoc]
  rw[e,←Int.add_mul,←this]
 rw[zj]
 generalize P/10000*l=a at*
 generalize P%10000*l=b at*
 have v1:a/18446744073709551616=0:=by omega
 have v2:a%18446744073709551616=a:=by omega
 have v3:b%18446744073709551616=b:=by omega
 have v4:Int.tdiv b 10000=b/10000:=Int.tdiv_eq_ediv_of_nonneg hr.1
 have v5:b/10000%18446744073709551616=b/10000:=by omega
 have ha:Cq k a (b/10000) 0=some (a+b/10000,0):=by
  have n1:(Int.ofNat ((a.toNat+(b/10000).toNat+0)%18446744073709551616))=a+b/10000:=by rw[Int.ofNat_eq_natCast];omega
  have n2:(Int.ofNat ((a.toNat+(b/10000).toNat+0)/18446744073709551616))=0:=by rw[Int.ofNat_eq_natCast];omega
  unfold Cq
  rw[aa rfl,aj,n1,n2]
 rw[af]
 dsimp only
 rw[v1,v2,oQ b,v3,v4,oQ (b/10000),v5,ha,af]
 dsimp only
 have z1:IntKind.wrap .u64 0=0:=by rw[oQ];omega
 have z2:IntKind.wrap .u64 (0+0)=0:=by rw[oQ];omega
 have z3:decide ((0:Int)>0)=false:=ab (by omega)
 have z4:decide (a+b/10000>9223372036854775807)=false:=ab (by omega)
 have z5:zA (a+b/10000)=a+b/10000:=zR (by omega) (by omega)
 rw[z1,z2,z3,z4,z5,ak,ak,ak]
 have:(a*10000+b)/10000=a+b/10000:=by omega
 rw[this]
abbrev j3:=Int×Int
abbrev sV:j3:=(0,0)
def lj (sa:List j3)(pr h:AC)(i:Nat):Int:=sU (pr.getD i 0) (h.getD i 0) (sa.getD i sV).2
def lZ (sa:List j3)(pr h:AC):Int:=qK (lj sa pr h) sa.length
structure j4 (sa:List j3) (pr h:AC):Prop where
 n3:sa.length≤3
 pl:pr.length=sa.length
 hl:h.length=sa.length
 cut:∀i,i<sa.length→0≤(sa.getD i sV).2∧(sa.getD i sV).2≤10000
 price:∀i,i<sa.length→0≤pr.getD i 0∧pr.getD i 0≤1048576
 hold:∀i,i<sa.length→0≤h.getD i 0∧h.getD i 0≤1099511627776
theorem IF {sa:List j3}{pr h:AC}(L:j4 sa pr h){i:Nat}(hi:i<sa.length):0≤lj sa pr h i∧lj sa pr h i≤1152921504606846976:=yLf (L.price i hi) (L.hold i hi) (L.cut i hi)
theorem yW8 (g:Nat→Int):∀n,ky ((List.range n).map g)=qK g n
 |0=>rfl
 |n+1=>by
  rw[List.range_succ,List.map_append]
  unfold ky
  rw[lh]
  have:=yW8 g n
  unfold ky at this
  rw[this]
  show qK g n+(g n+0)=qK g n+g n
  omega
theorem MQ {g:Nat→Int}{A:Int}:∀{n:Nat},(∀j,j<n→0≤g j∧g j≤A)→0≤qK g n∧qK g n≤n*A
 |0,_=>by simp[qK]
 |n+1,h=>by
  have h1:=MQ (n:=n) (fun j hj=>h j (by omega))
  have h2:=h n (by omega)
  have h3:((n+1:Nat):Int)*A=n*A+A:=by rw[Int.natCast_add,Int.add_mul];simp
  rw[h3]
  show 0≤qK g n+g n∧qK g n+g n≤_
  omega
theorem vYt {k:Nat}{sa:List j3}{pr h:AC}(L:j4 sa pr h)(hk:10≤k):DZ k k pr h sa sa.length 0 []=some (.inl ((List.range sa.length).map (lj sa pr h))):=by
 have hn:=L.n3
 obtain ⟨s', h1, h2⟩ := yZ (L := fun n i (s : AC) => DZ k n pr h sa sa.length i s) (N := sa.length) (fun s => .inl s) (fun i s => s = (List.range i).map (lj sa pr h)) (fun n s _=>by
  show D3 k _ pr h sa sa.length sa.length s=_
  unfold D3
  simp only [qG, ab (Nat.lt_irrefl _), ak]) (fun n i s hi hs=>by
  refine⟨s++[lj sa pr h i],?_,?_⟩
  ·show D3 k _ pr h sa sa.length i s=_
   unfold D3
   have eI:s.length≤3:=by rw[hs,List.length_map,List.length_range];omega
   have hw:=vRd k (L.price i hi) (L.hold i hi) (L.cut i hi)
   simp only[qG,qH,ao,aa hi,aa (show i<pr.length by rw[L.pl];exact hi),aa (show i<h.length by rw[L.hl];exact hi),aj,qJ hi (show sa.length<9223372036854775808 by omega)]
   rw[hw]
   simp only[af,aA,ak,qT (show(s.length+1)*8≤140737488355328 by omega) (show s.length+1≤140737488355328 by omega),aj]
   rfl
  ·rw[hs,List.range_succ,List.map_append];rfl) (s:=[]) (show sa.length<k by omega) rfl
 have dO:DZ k k pr h sa sa.length 0 []=_:=h1
 rw[dO,h2]
theorem yW3 {k:Nat}{sa:List j3}{pr h:AC}(L:j4 sa pr h)(hk:10≤k):qn k sa pr h=some (lZ sa pr h,true):=by
 have hn:=L.n3
 have hb:=MQ (g:=lj sa pr h) (n:=sa.length) (fun j hj=>IF L hj)
 have hm:(sa.length:Int)*1152921504606846976≤3*1152921504606846976:=Int.mul_le_mul_of_nonneg_right (by omega) (by decide)
 unfold qn
 have e1:decide ((pr.length:Int)=(sa.length:Int))=true:=aa (by rw[L.pl])
 have e2:decide ((h.length:Int)=(sa.length:Int))=true:=aa (by rw[L.hl])
 simp only[e1,e2,aA,ak]
 rw[vYt L hk]
 simp only[af]
 rw [Ut (by rw [List.length_map, List.length_range]; omega) (by rw [List.length_map, List.length_range]; omega) (fun i hi=>by
  rw[List.length_map,List.length_range] at hi
  have:=IF L hi
  have e:((List.range sa.length).map (lj sa pr h)).getD i 0=lj sa pr h i:=by
   rw[List.getD_eq_getElem?_getD,List.getElem?_map,List.getElem?_range hi];rfl
  rw[e];omega)]
 rw[yW8]
 have e3:DW (qK (lj sa pr h) sa.length)=true:=by
  unfold DW
  rw[aa (by omega),aa (by omega)];rfl
 rw[e3]
 rfl
theorem D4 {sa:List j3}{pr h:AC}(L:j4 sa pr h):0≤lZ sa pr h:=(MQ (g:=lj sa pr h) (n:=sa.length) (fun j hj=>IF L hj)).1
theorem yKi {k:Nat}{l:AC}(hl:l.length≤1000){i:Int}(h0:0≤i)(h1:i<l.length)(v:Int):oR k l i v=some (l.set i.toNat v):=by
 unfold oR
 have e2:oL k l=some l:=by
  unfold oL
  rw[qT (by omega) (by omega)]
  rfl
 simp only[e2,af,aa (show i≥0 by omega),aa h1,aj,fq h0 h1]
abbrev BT:=List qR×EQ×AC×EQ
def qU (B:BT):Prop:=wL B.1 B.2.1 B.2.2.1 B.2.2.2
theorem D5 {k}(hk:100<k){B}(h:qU B){l:List zF}(hl:l.length≤80):
  ∃r,oN k B.1 B.2.1 B.2.2.1 B.2.2.2 l=some r∧yv k B.1 B.2.1 B.2.2.1 B.2.2.2 l=some r∧qh B.1 B.2.1 B.2.2.1 B.2.2.2 l r:=by
 obtain⟨r,h1,h2⟩:=Mh hk h hl
 obtain⟨r',h3,h4⟩:=vQ6 hk h hl
 have:=h2.same h4
 simp_all
def u9 (B:BT)(l:List zF):Bool:=uV B.1 B.2.1 B.2.2.1 B.2.2.2 l
def gI (k:Nat)(B:BT)(l:List zF):Option BT:=match oN k B.1 B.2.1 B.2.2.1 B.2.2.2 l with
 |some r=>bif decide (r.2.2.2.2=0)&&u9 B l then some (r.1,r.2.1,r.2.2.1,r.2.2.2.1) else none
 |none=>none
theorem qo {k}(hk:100<k){B C}(h:qU B){l}(hl:l.length≤80)(hg:gI k B l=some C):qU C∧C.1.length=B.1.length:=by
 obtain⟨r,h1,h2,h3⟩:=D5 hk h hl
 unfold gI at hg
 rw[h1] at hg
 simp only at hg
 cases hc:decide (r.2.2.2.2=0)&&u9 B l with
 |false=>
  simp_all
 |true=>
  rw[hc] at hg
  simp  at hg
  subst hg
  refine⟨(Mi h h3).2.1,?_⟩
  by_cases c:vX B.1.length l
  ·obtain⟨a',p',x,e⟩:=h3.1 c
   cases hi:lW a' B.2.1 B.2.2.1 p' with
   |false=>simp_all
   |true=>rw[hi] at e;subst e;exact x.al
  ·rw[h3.2 c]
def fw (k:Nat)(B:BT):List zF→Option (zF×BT)
 |[]=>none
 |p::l=>match gI k B [p] with
  |some C=>some (p,C)
  |none=>fw k B l
theorem zk {k B C p}:∀{l},fw k B l=some (p,C)→p∈l∧gI k B [p]=some C
 |q::l,h=>by
  unfold fw at h
  cases hg:gI k B [q] with
  |some D=>
   simp_all
  |none=>
   rw[hg] at h
   have:=zk h
   simp_all
theorem yDz k B {m:List zF}{i}(hi:i<m.length):fw k B (m.drop i)=match gI k B [m.getD i pd] with
  |some C=>some (m.getD i pd,C)
  |none=>fw k B (m.drop (i+1)):=by
 rw[List.drop_eq_getElem_cons hi]
 have e:m.getD i pd=m[i]:=by simp_all
 rw[e]
 rfl
theorem MR l t:(vW l t).length≤l.length:=Nat.le_trans (List.length_filter_le _ _) (by grind)
theorem Ux m i (hi:i<m.length):qW m (0+i) (i+1-i)=[m.getD i pd]:=by
 unfold qW
 rw[Nat.zero_add,show i+1-i=1 by omega,List.drop_eq_getElem_cons hi,List.getD_eq_getElem?_getD,List.getElem?_eq_getElem hi]
 rfl
def jT (l:List zF)(id:Int):List zF:=(gH l id).1
theorem sW {l p}(h:p∈l):(jT l p.1).length+1=l.length∧List.Sublist (jT l p.1) l:=by
 obtain⟨x,hx⟩:=MD h
 unfold jT gH
 rw[hx]
 have:=(j0 hx).1
 refine⟨?_,sR l x⟩
 rw[mP this]
 omega
theorem D6 {l t p}(h:p∈vW l t):p∈l:=(List.mem_filter.1 (List.mem_filter.1 h).1).1
inductive gk (k:Nat) (t:Int):BT→List zF→List zF→BT→List zF→Prop
 |stop {B:BT} {l:List zF} (h:fw k B (vW l t)=none):gk k t B l [] B l
 |step {B C D:BT} {l m done:List zF} {p:zF} (h:fw k B (vW l t)=some (p,C)) (h':gk k t C (jT l p.1) done D m):gk k t B l (p::done) D m
theorem vA1 {k}(hk:100<k){B}(h:qU B){l:List zF}(hl:l.length≤80):zb k B.1 B.2.1 B.2.2.1 B.2.2.2 l=some (u9 B l):=vZ4 hk h hl
theorem vA5 {k}(hk:100<k){B}(h:qU B)(m:List zF)(hm:m.length≤1000):∀c i n,i+c=m.length→c<n→
  IG k n m.length i B.1 B.2.1 B.2.2.1 B.2.2.2 0 0 0 0 0 0 0 m = some (match fw k B (m.drop i) with
   |some (p,C)=>.inr (true,p.1,p.2.1,p.2.2.1,p.2.2.2.1,p.2.2.2.2.1,p.2.2.2.2.2.1,p.2.2.2.2.2.2,C.1,C.2.1,C.2.2.1,C.2.2.2)
   |none=>.inl (B.1,B.2.1,B.2.2.1,B.2.2.2,0,0,0,0,0,0,0))
 |0,i,n,e,hn=>by
  obtain⟨n,rfl⟩:∃x,n=x+1:=⟨n-1,by omega⟩
  have:i=m.length:=by omega
  subst this
  show D7 k _ m.length m.length B.1 B.2.1 B.2.2.1 B.2.2.2 0 0 0 0 0 0 0 m=_
  unfold D7
  simp
  rfl
 |c+1,i,n,e,hn=>by
  obtain⟨n,rfl⟩:∃x,n=x+1:=⟨n-1,by omega⟩
  have hi:i<m.length:=by omega
  have ih:=vA5 hk h m hm c (i+1) n (by omega) (by omega)
  show D7 k _ m.length i B.1 B.2.1 B.2.2.1 B.2.2.2 0 0 0 0 0 0 0 m=_
  unfold D7
  obtain⟨r,h1,h2,h3⟩:=D5 hk h (l:=[m.getD i pd]) (by simp)
  have hf:=vA1 hk h (l:=[m.getD i pd]) (by simp)
  simp[qH,qJ hi (by grind)]
  rw[yDz k B hi]
  unfold gI
  grind
def vAp (B:BT)(x:Option (zF×BT)):Int×Int×Int×Int×Int×Int×Int×(List (Int×Int×Int))×EQ×AC×EQ×Bool:=match x with
 |some (p,C)=>(p.1,p.2.1,p.2.2.1,p.2.2.2.1,p.2.2.2.2.1,p.2.2.2.2.2.1,p.2.2.2.2.2.2,C.1,C.2.1,C.2.2.1,C.2.2.2,true)
 |none=>(0,0,0,0,0,0,0,B.1,B.2.1,B.2.2.1,B.2.2.2,false)
theorem vOy {k}(hk:100<k){B}(h:qU B){l}(bI:l.length<k)(hl:qV l)(hd:qO l) t:MS k B.1 B.2.1 B.2.2.1 B.2.2.2 l t=some (vAp B (fw k B (vW l t))):=by
 unfold MS
 rw[qZy bI hl hd]
 have D8:=MR l t
 unfold qV at hl
 have:=vA5 hk h (vW l t) (by omega) (vW l t).length 0 k (by omega) (by omega)
 have e:((0:Nat):Int)=0:=rfl
 rw[e,List.drop_zero] at this
 simp
 rw[this]
 cases fw k B (vW l t) with
 |none=>rfl
 |some x=>rfl
theorem yBr {k}(hk:100<k) t:∀n B (l r:List zF),qU B→qO l→l.length≤100→l.length<n→r.length+l.length≤1000→
  ∃(C:BT) (m done:List zF),IH k n t l B.1 B.2.1 B.2.2.1 B.2.2.2 r=some (m,C.1,C.2.1,C.2.2.1,C.2.2.2,r++done)∧gk k t B l done C m∧qU C∧C.1.length=B.1.length∧List.Sublist m l
 |n+1,B,l,r,hb,hd,hl,hn,hr=>by
  have h1:=vOy hk hb (l:=l) (by omega) (by show l.length≤1000;omega) hd t
  cases hx:fw k B (vW l t) with
  |none=>
   rw[hx] at h1
   refine⟨B,l,[],?_,.stop hx,hb,rfl,by simp⟩
   show D9 k _ t l B.1 B.2.1 B.2.2.1 B.2.2.2 r=_
   unfold D9
   rw[h1]
   simp only[af,vAp,bM,aj,List.append_nil]
  |some x=>
   obtain⟨p,C⟩:=x
   rw[hx] at h1
   obtain⟨hp,hg⟩:=zk hx
   have BU:=D6 hp
   obtain⟨rU,mB⟩:=sW BU
   obtain⟨oC,cN⟩:=qo hk hb (by simp) hg
   obtain⟨D,m,done,g1,g3,g4,g5,g6⟩:=yBr hk t n C (jT l p.1) (r++[p]) oC (List.Pairwise.sublist mB hd) (by omega) (by omega) (by grind)
   refine⟨D,m,p::done,?_,.step hx g3,g4,by grind,g6.trans mB⟩
   show D9 k _ t l B.1 B.2.1 B.2.2.1 B.2.2.2 r=_
   unfold D9
   rw[h1]
   simp[zg (show l.length<k by omega) (show qV l by show l.length≤1000;omega),lX (show r.length≤1000 by omega)]
   rw[List.append_cons r p done,←g1]
   rfl
theorem vSf {k}(hk:200≤k){B}(hb:qU B){l}(hd:qO l)(hl:l.length≤100) t:
  ∃(C:BT) (m done:List zF),MU k B.1 B.2.1 B.2.2.1 B.2.2.2 l t=some (C.1,C.2.1,C.2.2.1,C.2.2.2,m,done)∧gk k t B l done C m∧qU C∧C.1.length=B.1.length∧List.Sublist m l:=by
 obtain⟨C,m,done,h1,h3⟩:=yBr (show 100<k by omega) t k B l [] hb hd hl (by omega) (by grind)
 refine⟨C,m,done,?_,h3⟩
 unfold MU
 simp_all
def oS (p q:zF):Bool:=decide (q.2.1=p.2.2.1)&&(decide (q.2.2.1=p.2.1)&& !decide (p.2.1≥q.2.1))
def nH (k:Nat)(B:BT)(p:zF):List zF→Option (zF×BT)
 |[]=>none
 |q::l=>match(bif oS p q then gI k B [p,q] else none) with
  |some C=>some (q,C)
  |none=>nH k B p l
def qp (k:Nat)(B:BT)(m:List zF):List zF→Option (zF×zF×BT)
 |[]=>none
 |p::l=>match nH k B p m with
  |some (q,C)=>some (p,q,C)
  |none=>qp k B m l
theorem Uy {k B C p q}:∀{l},nH k B p l=some (q,C)→q∈l∧oS p q=true∧gI k B [p,q]=some C
 |r::l,h=>by
  unfold nH at h
  cases hd:oS p r with
  |false=>
   rw[hd] at h
   have:=Uy (l:=l) h
   simp_all
  |true=>
   rw[hd] at h
   cases hg:gI k B [p,r] with
   |some D=>
    simp_all
   |none=>
    rw[hg] at h
    have:=Uy (l:=l) h
    simp_all
theorem MV {k B C p q m}:∀{l},qp k B m l=some (p,q,C)→p∈l∧q∈m∧oS p q=true∧gI k B [p,q]=some C
 |r::l,h=>by
  unfold qp at h
  cases hq:nH k B r m with
  |some x=>
   rw[hq] at h
   cases h
   exact⟨by simp,Uy hq⟩
  |none=>
   rw[hq] at h
   have:=MV (l:=l) h
   simp_all
theorem yA5 {α:Type}{l:List α}{i} h d:l.getD i d=l[i]:=by
 simp_all
theorem yG8 k B p {m:List zF}{i}(hi:i<m.length):nH k B p (m.drop i)=match(bif oS p (m.getD i pd) then gI k B [p,m.getD i pd] else none) with
  |some C=>some (m.getD i pd,C)
  |none=>nH k B p (m.drop (i+1)):=by
 rw[List.drop_eq_getElem_cons hi,yA5 hi]
 rfl
theorem yA2 k B r {m:List zF}{i}(hi:i<m.length):qp k B r (m.drop i)=match nH k B (m.getD i pd) r with
  |some (q,C)=>some (m.getD i pd,q,C)
  |none=>qp k B r (m.drop (i+1)):=by
 rw[List.drop_eq_getElem_cons hi,yA5 hi]
 rfl
def fh (k:Nat)(B:BT)(l:List zF)(t:Int):Option (zF×zF×BT):=qp k B (vW l t) (vW l t)
theorem vZn {l x q}(hx:x<l.length)(h:q∈l)(bm:q≠l.getD x pd):q∈yB l x:=by
 unfold yB
 have e:=Ir l x pd hx
 grind
theorem qO.eq_of {l}(h:qO l){p q}(hp:p∈l)(hq:q∈l)(e:p.1=q.1):p=q:=by
 obtain⟨i,hi,ei⟩:=List.getElem_of_mem hp
 obtain⟨j,hj,ej⟩:=List.getElem_of_mem hq
 have hl:=List.pairwise_iff_getElem.1 h
 grind
theorem Uz {l p q}(hp:p∈l)(hq:q∈l)(bm:q.1≠p.1):q∈jT l p.1:=by
 obtain⟨x,hx⟩:=MD hp
 unfold jT gH
 rw[hx]
 have:=j0 hx
 exact vZn this.1 hq (by grind)
def zl (l:List zF)(p q:zF):List zF:=jT (jT l p.1) q.1
theorem Ea {k B C l t p q}(h:fh k B l t=some (p,q,C)):p∈l∧q∈l∧oS p q=true∧gI k B [p,q]=some C:=by
 obtain⟨h1,h2,h3⟩:=MV h
 exact⟨D6 h1,D6 h2,h3⟩
theorem yIc {l}(hd:qO l){p q}(hp:p∈l)(hq:q∈l)(h:oS p q=true):q.1≠p.1:=by
 intro e
 have:=hd.eq_of hq hp e
 subst this
 unfold oS at h
 simp at h
theorem Eb {l}(hd:qO l){p q}(hp:p∈l)(hq:q∈l)(h:oS p q=true):(zl l p q).length+2=l.length∧List.Sublist (zl l p q) l:=by
 obtain⟨h1,h2⟩:=sW hp
 obtain⟨h3,h4⟩:=sW (Uz hp hq (yIc hd hp hq h))
 unfold zl
 exact⟨by omega,h4.trans h2⟩
inductive jH (k:Nat) (t:Int):BT→List zF→List zF→BT→List zF→Prop
 |stop {B:BT} {l:List zF} (h:fh k B l t=none):jH k t B l [] B l
 |step {B C D:BT} {l m done:List zF} {p q:zF} (h:fh k B l t=some (p,q,C)) (h':jH k t C (zl l p q) done D m):jH k t B l (p::q::done) D m
theorem jH.length {k t B C l done m}(h:jH k t B l done C m)(hd:qO l):done.length+m.length=l.length∧done.length%2=0:=by
 induction h with
 |stop _=>simp
 |step h _ ih=>
  obtain⟨hp,hq,nI,_⟩:=Ea h
  obtain⟨h1,h2⟩:=Eb hd hp hq nI
  have:=ih (List.Pairwise.sublist h2 hd)
  grind
theorem jH.sub {k t B C l done m}(h:jH k t B l done C m)(hd:qO l):List.Sublist m l:=by
 induction h with
 |stop _=>simp
 |step h _ ih=>
  obtain⟨hp,hq,nI,_⟩:=Ea h
  obtain⟨h1,h2⟩:=Eb hd hp hq nI
  exact(ih (List.Pairwise.sublist h2 hd)).trans h2
theorem yTw {k}(hk:100<k){B}(h:qU B)(m:List zF)(hm:m.length≤1000) p dC cH:∀c i n,i+c=m.length→c<n→
  II k n dC cH m.length i B.1 B.2.1 B.2.2.1 B.2.2.2 0 0 0 0 0 0 0 0 0 0 0 0 0 0 m p.1 p.2.1 p.2.2.1 p.2.2.2.1 p.2.2.2.2.1 p.2.2.2.2.2.1 p.2.2.2.2.2.2 = some (match nH k B p (m.drop i) with
   |some (q,C)=>.inr (true,p.1,p.2.1,p.2.2.1,p.2.2.2.1,p.2.2.2.2.1,p.2.2.2.2.2.1,p.2.2.2.2.2.2,q.1,q.2.1,q.2.2.1,q.2.2.2.1,q.2.2.2.2.1,q.2.2.2.2.2.1,q.2.2.2.2.2.2,C.1,C.2.1,C.2.2.1,C.2.2.2)
   |none=>.inl (dC,cH,B.1,B.2.1,B.2.2.1,B.2.2.2,0,0,0,0,0,0,0,0,0,0,0,0,0,0,m))
 |0,i,n,e,hn=>by
  obtain⟨n,rfl⟩:∃x,n=x+1:=⟨n-1,by omega⟩
  have:i=m.length:=by omega
  subst this
  show Ec k _ dC cH m.length m.length B.1 B.2.1 B.2.2.1 B.2.2.2 0 0 0 0 0 0 0 0 0 0 0 0 0 0 m p.1 p.2.1 p.2.2.1 p.2.2.2.1 p.2.2.2.2.1 p.2.2.2.2.2.1 p.2.2.2.2.2.2=_
  unfold Ec
  simp
  rfl
 |c+1,i,n,e,hn=>by
  obtain⟨n,rfl⟩:∃x,n=x+1:=⟨n-1,by omega⟩
  have hi:i<m.length:=by omega
  have ih:=yTw hk h m hm p dC cH c (i+1) n (by omega) (by omega)
  show Ec k _ dC cH m.length i B.1 B.2.1 B.2.2.1 B.2.2.2 0 0 0 0 0 0 0 0 0 0 0 0 0 0 m p.1 p.2.1 p.2.2.1 p.2.2.2.1 p.2.2.2.2.1 p.2.2.2.2.2.1 p.2.2.2.2.2.2=_
  unfold Ec
  obtain⟨r,h1,h2,h3⟩:=D5 hk h (l:=[p,m.getD i pd]) (by simp)
  have hf:=vA1 hk h (l:=[p,m.getD i pd]) (by simp)
  have dO:oN k B.1 B.2.1 B.2.2.1 B.2.2.2 [(p.1,p.2.1,p.2.2.1,p.2.2.2.1,p.2.2.2.2.1,p.2.2.2.2.2.1,p.2.2.2.2.2.2),m.getD i (0,(0,(0,(0,(0,(0,0))))))]=some r:=h1
  have dV:zb k B.1 B.2.1 B.2.2.1 B.2.2.2 [(p.1,p.2.1,p.2.2.1,p.2.2.2.1,p.2.2.2.2.1,p.2.2.2.2.2.1,p.2.2.2.2.2.2),m.getD i (0,(0,(0,(0,(0,(0,0))))))]=some (u9 B [p,m.getD i pd]):=hf
  simp only[qH,qJ hi (by grind),qG,ao,aa hi]
  rw[yG8 k B p hi]
  unfold oS
  cases decide ((m.getD i pd).2.1=p.2.2.1) with
  |false=>exact ih
  |true=>
   cases decide ((m.getD i pd).2.2.1=p.2.1) with
   |false=>exact ih
   |true=>
    cases decide (p.2.1≥(m.getD i pd).2.1) with
    |true=>exact ih
    |false=>
     unfold gI
     grind
theorem yFj {k}(hk:100<k){B}(h:qU B)(m:List zF)(hm:m.length≤1000)(IJ:m.length<k):∀c i n,i+c=m.length→c<n→
  IK k n m.length i B.1 B.2.1 B.2.2.1 B.2.2.2 0 0 0 0 0 0 0 0 0 0 0 0 0 0 m = some (match qp k B m (m.drop i) with
   |some (p,q,C)=>.inr (true,p.1,p.2.1,p.2.2.1,p.2.2.2.1,p.2.2.2.2.1,p.2.2.2.2.2.1,p.2.2.2.2.2.2,q.1,q.2.1,q.2.2.1,q.2.2.2.1,q.2.2.2.2.1,q.2.2.2.2.2.1,q.2.2.2.2.2.2,C.1,C.2.1,C.2.2.1,C.2.2.2)
   |none=>.inl (0,0,0,0,0,0,0,0,0,0,0,0,0,0))
 |0,i,n,e,hn=>by
  obtain⟨n,rfl⟩:∃x,n=x+1:=⟨n-1,by omega⟩
  have:i=m.length:=by omega
  subst this
  show Ed k _ m.length m.length B.1 B.2.1 B.2.2.1 B.2.2.2 0 0 0 0 0 0 0 0 0 0 0 0 0 0 m=_
  unfold Ed
  simp
  rfl
 |c+1,i,n,e,hn=>by
  obtain⟨n,rfl⟩:∃x,n=x+1:=⟨n-1,by omega⟩
  have hi:i<m.length:=by omega
  have ih:=yFj hk h m hm IJ c (i+1) n (by omega) (by omega)
  show Ed k _ m.length i B.1 B.2.1 B.2.2.1 B.2.2.2 0 0 0 0 0 0 0 0 0 0 0 0 0 0 m=_
  unfold Ed
  have fk:=yTw hk h m hm (m.getD i pd) m.length i m.length 0 k (by omega) IJ
  have e0:((0:Nat):Int)=0:=rfl
  rw[e0,List.drop_zero] at fk
  simp only[qH,qG,ao,aa hi]
  rw[fk]
  rw[yA2 k B m hi]
  cases nH k B (m.getD i (0,(0,(0,(0,(0,(0,0))))))) m with
  |none=>
   simp[qJ hi (by grind)]
   exact ih
  |some x=>rfl
def UA (x:Option (zF×zF×BT)):Int×Int×Int×Int×Int×Int×Int×Int×Int×Int×Int×Int×Int×Int×(List (Int×Int×Int))×EQ×AC×EQ×Bool:=match x with
 |some (p,q,C)=>(p.1,p.2.1,p.2.2.1,p.2.2.2.1,p.2.2.2.2.1,p.2.2.2.2.2.1,p.2.2.2.2.2.2,q.1,q.2.1,q.2.2.1,q.2.2.2.1,q.2.2.2.2.1,q.2.2.2.2.2.1,q.2.2.2.2.2.2,C.1,C.2.1,C.2.2.1,C.2.2.2,true)
 |none=>(0,0,0,0,0,0,0,0,0,0,0,0,0,0,[],[],[],[],false)
theorem vNw {k}(hk:100<k){B}(h:qU B){l}(bI:l.length<k)(hl:qV l)(hd:qO l) t:MW k B.1 B.2.1 B.2.2.1 B.2.2.2 l t=some (UA (fh k B l t)):=by
 unfold MW fh
 rw[qZy bI hl hd]
 have D8:=MR l t
 unfold qV at hl
 have:=yFj hk h (vW l t) (by omega) (by omega) (vW l t).length 0 k (by omega) (by omega)
 have e:((0:Nat):Int)=0:=rfl
 rw[e,List.drop_zero] at this
 simp
 rw[this]
 cases qp k B (vW l t) (vW l t) with
 |none=>rfl
 |some x=>rfl
theorem vKq {k}(hk:3≤k) t (l:List zF)(hl:l.length≤1000)(sC:l.length<k)(C:BT)(r:List zF)(hr:r.length≤900)(p q:zF):
  vd k k t l 2 0 C.1 C.2.1 C.2.2.1 C.2.2.2 r [p,q]=some (t,zl l p q,C.1,C.2.1,C.2.2.1,C.2.2.2,r++[p,q]):=by
 obtain⟨n,rfl⟩:∃n,k=n+3:=⟨k-3,by omega⟩
 have h1:=zg sC (show qV l from hl) p.1
 have rU:(jT l p.1).length≤l.length:=by
  unfold jT gH
  cases hp:vP l p.1 with
  |none=>simp
  |some x=>exact List.Sublist.length_le (sR l x)
 have h2:=zg (k:=n+3) (l:=jT l p.1) (by omega) (show(jT l p.1).length≤1000 by omega) q.1
 have e1:zO (r.length+1) 56=true:=lX (by omega)
 have e2:zO ((r++[p]).length+1) 56=true:=lX (by grind)
 show vf (n+3) (vd (n+3) (n+2)) t l 2 0 C.1 C.2.1 C.2.2.1 C.2.2.2 r [p,q]=_
 unfold vf
 have g0:[p,q].getD (Int.toNat 0) (0,(0,(0,(0,(0,(0,0))))))=p:=rfl
 have b0:zB 0 [p,q].length=true:=rfl
 have d0:decide ((0:Int)<2)=true:=rfl
 have w0:zA (0+1)=1:=by decide
 rw[d0,b0,g0,h1]
 simp[e1]
 show vf (n+3) (vd (n+3) (n+1)) t (jT l p.1) 2 1 C.1 C.2.1 C.2.2.1 C.2.2.2 (r++[p]) [p,q]=_
 unfold vf
 have g1:[p,q].getD (Int.toNat 1) (0,(0,(0,(0,(0,(0,0))))))=q:=rfl
 have b1:zB 1 [p,q].length=true:=rfl
 have d1:decide ((1:Int)<2)=true:=rfl
 have w1:zA (1+1)=2:=by decide
 rw[d1,b1,g1,h2]
 simp only[e2]
 show vf (n+3) (vd (n+3) n) t (zl l p q) 2 2 C.1 C.2.1 C.2.2.1 C.2.2.2 (r++[p]++[q]) [p,q]=_
 unfold vf
 simp
theorem yPz {k}(hk:100<k) t:∀n B (l r:List zF),qU B→qO l→l.length≤100→l.length<n→r.length+l.length≤900→
  ∃(C:BT) (m done:List zF),IL k n t l B.1 B.2.1 B.2.2.1 B.2.2.2 r=some (m,C.1,C.2.1,C.2.2.1,C.2.2.2,r++done)∧jH k t B l done C m∧qU C∧C.1.length=B.1.length∧List.Sublist m l
 |n+1,B,l,r,hb,hd,hl,hn,hr=>by
  have h1:=vNw hk hb (l:=l) (by omega) (by show l.length≤1000;omega) hd t
  cases hx:fh k B l t with
  |none=>
   rw[hx] at h1
   refine⟨B,l,[],?_,.stop hx,hb,rfl,by simp⟩
   show Ee k _ t l B.1 B.2.1 B.2.2.1 B.2.2.2 r=_
   unfold Ee
   rw[h1]
   simp only[af,UA,bM,aj,List.append_nil]
  |some x=>
   obtain⟨p,q,C⟩:=x
   obtain⟨hp,hq,nI,hg⟩:=Ea hx
   obtain⟨rU,mB⟩:=Eb hd hp hq nI
   obtain⟨oC,cN⟩:=qo hk hb (by simp) hg
   obtain⟨D,m,done,g1,g3,g4,g5,g6⟩:=yPz hk t n C (zl l p q) (r++[p,q]) oC (List.Pairwise.sublist mB hd) (by omega) (by omega) (by grind)
   refine⟨D,m,p::q::done,?_,.step hx g3,g4,by grind,g6.trans mB⟩
   show Ee k _ t l B.1 B.2.1 B.2.2.1 B.2.2.2 r=_
   unfold Ee
   rw[h1]
   have hL:=vKq (k:=k) (by omega) t l (by omega) (by omega) C r (by omega) p q
   simp only[UA,ak]
   simp_all
theorem vIz {k}(hk:200≤k){B}(hb:qU B){l}(hd:qO l)(hl:l.length≤100) t:
  ∃(C:BT) (m done:List zF),MX k B.1 B.2.1 B.2.2.1 B.2.2.2 l t=some (C.1,C.2.1,C.2.2.1,C.2.2.2,m,done)∧jH k t B l done C m∧qU C∧C.1.length=B.1.length∧List.Sublist m l:=by
 obtain⟨C,m,done,h1,h3⟩:=yPz (show 100<k by omega) t k B l [] hb hd hl (by omega) (by grind)
 refine⟨C,m,done,?_,h3⟩
 unfold MX
 simp_all
def jJ (l:List zF)(f:Int):Nat:=(l.filter (wH f)).length
def qq (l:List zF)(many:AC)(i:Nat):Bool:=
 (decide ((l.getD i pd).2.1≥0)&&decide ((l.getD i pd).2.1<(many.length:Int)))&&decide (((jJ (l.take i) (l.getD i pd).2.1:Nat):Int)<many.getD (l.getD i pd).2.1.toNat 0)
def l9 (l:List zF)(many:AC):Nat→List zF
 |0=>[]
 |i+1=>l9 l many i++(bif qq l many i then[l.getD i pd] else[])
def vA (l:List zF)(many:AC):List zF:=l9 l many l.length
theorem yU9 l many:∀N,N≤l.length→List.Sublist (l9 l many N) (l.take N)
 |0,_=>by simp[l9]
 |N+1,h=>by
  rw[←ft l N pd h]
  apply List.Sublist.append (yU9 l many N (by omega))
  grind
theorem vg l many:List.Sublist (vA l many) l:=by
 have:=yU9 l many l.length (by simp)
 rwa [List.take_length] at this
def sX (v w:AC):Prop:=v.length=w.length∧∀i,i<w.length→v.getD i 0≤w.getD i 0
def jP (B:BT)(l:List zF):AC:=sP B.1 B.2.1 B.2.2.1 B.2.2.2 l
def jW (s:AC)(m:AC):AC:=s.foldl (fun m i=>m.set i.toNat (m.getD i.toNat 0-1)) m
theorem sY:∀s m,(jW s m).length=m.length
 |[],_=>rfl
 |i::s,m=>by
  show(jW s (m.set i.toNat (m.getD i.toNat 0-1))).length=_
  rw[sY s,List.length_set]
theorem yV3:∀(s:List Nat) m,s.Nodup→(∀i∈s,i<m.length)→∀j,(jW (s.map fun(x:Nat)=>(x:Int)) m).getD j 0=m.getD j 0-(if j∈s then 1 else 0)
 |[],m,_,_,j=>by simp[jW]
 |i::s,m,hs,hi,j=>by
  show(jW (s.map fun(x:Nat)=>(x:Int)) (m.set ((i:Int)).toNat (m.getD ((i:Int)).toNat 0-1))).getD j 0=_
  rw[ao,yV3 s _ (by grind) (by grind),jN]
  grind
def sZ (B:BT)(l:List zF)(i:Nat):Bool:=fu B.1 B.2.1 B.2.2.1 B.2.2.2 l i
theorem yKb B l {m}(hm:m.length=B.1.length) j:(jW (jP B l) m).getD j 0=m.getD j 0-(if j<B.1.length∧sZ B l j=true then 1 else 0):=by
 have:=yV3 ((List.range B.1.length).filter fun i=>sZ B l i) m (List.Nodup.sublist List.filter_sublist (by grind)) (by grind) j
 unfold jP sP
 rw[show(fun i=>fu B.1 B.2.1 B.2.2.1 B.2.2.2 l i)=fun i=>sZ B l i from rfl,this]
 simp
theorem vT2 {B l}:jP B l=[]↔∀j,j<B.1.length→sZ B l j=false:=by
 unfold jP sP
 rw[List.map_eq_nil_iff,List.filter_eq_nil_iff]
 constructor
 ·intro h j hj
  have:=h j (by grind)
  simpa[sZ] using this
 ·intro h i hi
  have:=h i (by grind)
  simpa[sZ] using this
theorem yN3 {l many p}:∀{N},p∈l9 l many N→∃i,i<N∧l.getD i pd=p∧qq l many i=true
 |N+1,h=>by
  unfold l9 at h
  rw[List.mem_append] at h
  rcases h with h|h
  ·obtain⟨i,h1,h2⟩:=yN3 h
   grind
  grind
theorem vJb {B l}(hl:∀q∈l,yI B.1.length q){m j}(h:sZ B (vA l m) j=true):1≤m.getD j 0:=by
 unfold sZ fu at h
 rw[aV,Bool.not_eq_true'] at h
 have hn:=yZ5 (n:=B.1.length) (l:=vA l m) (fun q hq=>hl q ((vg l m).subset hq)) j
 rw[h.1] at hn
 obtain⟨x,hx,he⟩:=Mv.1 hn
 obtain⟨i,h1,h2,h3⟩:=yN3 (jK (d:=pd) hx)
 unfold qq at h3
 have Mn:(l.getD i pd)=(vA l m).getD x pd:=h2
 grind
inductive j5 (B:BT) (l:List zF):AC→AC→Nat→Prop
 |stop {m:AC} (h:jP B (vA l m)=[]):j5 B l m m 0
 |step {m f:AC} {n:Nat} (h:jP B (vA l m)≠[]) (h':j5 B l (jW (jP B (vA l m)) m) f n):j5 B l m f (n+1)
theorem vTg {B l m}(hm:m.length=B.1.length):sX (jW (jP B l) m) m:=by
 refine⟨sY _ _,fun i hi=>?_⟩
 rw[yKb B l hm]
 omega
theorem sX.trans {u v w}(h:sX u v)(h':sX v w):sX u w:=⟨h.1.trans h'.1,fun i hi=>Int.le_trans (h.2 i (by have:=h'.1;omega)) (h'.2 i hi)⟩
theorem sX.refl v:sX v v:=⟨rfl,by simp⟩
theorem j5.le {B l m f n}(h:j5 B l m f n)(hm:m.length=B.1.length):sX f m:=by
 induction h with
 |stop _=>exact sX.refl _
 |step _ _ ih=>exact(ih ((sY _ _).trans hm)).trans (vTg hm)
theorem j5.final {B l m f n}(h:j5 B l m f n):jP B (vA l f)=[]:=by
 induction h with
 |stop h=>exact h
 |step _ _ ih=>exact ih
def nJ (m:AC):Prop:=∀i,0≤m.getD i 0
theorem MY {B l}(hl:∀q∈l,yI B.1.length q){m}(hm:m.length=B.1.length)(h0:nJ m):nJ (jW (jP B (vA l m)) m):=by
 intro i
 rw[yKb B _ hm]
 have:=h0 i
 split
 ·rename_i c
  have:=vJb hl c.2
  omega
 ·omega
theorem j5.nonneg {B l}(hl:∀q∈l,yI B.1.length q){m f n}(h:j5 B l m f n)(hm:m.length=B.1.length)(h0:nJ m):nJ f:=by
 induction h with
 |stop _=>exact h0
 |step _ _ ih=>exact ih ((sY _ _).trans hm) (MY hl hm h0)
def ma (m:AC):Int:=zP (fun x=>x) m
theorem yFx:∀m i x,i<m.length→ma (m.set i x)=ma m-m.getD i 0+x
 |y::m,0,x,_=>by
  show x+ma m=y+ma m-y+x
  omega
 |y::m,i+1,x,h=>by
  show y+ma (m.set i x)=y+ma m-m.getD i 0+x
  rw[yFx m i x (by simp_all)]
  omega
theorem yL9:∀s m,(∀i∈s,0≤i∧i<(m.length:Int))→ma (jW s m)=ma m-s.length
 |[],m,_=>by simp[jW]
 |i::s,m,h=>by
  have hi:=h i (by simp)
  show ma (jW s (m.set i.toNat (m.getD i.toNat 0-1)))=_
  rw[yL9 s _ (by grind),yFx _ _ _ (by omega)]
  grind
theorem UB {B l}:∀i∈jP B l,0≤i∧i<(B.1.length:Int):=by
 intro i hi
 obtain⟨x,hx,rfl⟩:=List.mem_map.1 hi
 simp_all
theorem yHn:∀{m},nJ m→0≤ma m
 |[],_=>Int.le_refl 0
 |x::m,h=>by
  have h1:0≤x:=h 0
  have h2:=yHn (m:=m) (fun i=>h (i+1))
  show 0≤x+ma m
  omega
theorem yF8 {B l}(hl:∀q∈l,yI B.1.length q):∀(N:Nat) m,m.length=B.1.length→nJ m→ma m≤N→∃f n,j5 B l m f n∧n≤N
 |N,m,hm,h0,hN=>by
  by_cases c:jP B (vA l m)=[]
  ·exact⟨m,0,.stop c,by simp⟩
  ·have ht:=yL9 (jP B (vA l m)) m (by rw[hm];exact UB)
   have hp:0<(jP B (vA l m)).length:=by grind
   have h1:=MY hl hm h0
   have h2:=yHn h1
   obtain⟨N,rfl⟩:∃x,N=x+1:=⟨N-1,by omega⟩
   obtain⟨f,n,h3,h4⟩:=yF8 hl N _ ((sY _ _).trans hm) h1 (by omega)
   exact⟨f,n+1,.step c h3,by omega⟩
theorem UC l many:∀N,(l9 l many N).length≤N
 |0=>Nat.le_refl _
 |N+1=>by
  unfold l9
  have:=UC l many N
  grind
theorem vN6 (l:List zF) i (hi:i<l.length) f:jJ (l.take (i+1)) f=jJ (l.take i) f+(if(l.getD i pd).2.1=f then 1 else 0):=by
 unfold jJ
 rw[zc _ _ _ pd hi,List.length_append]
 unfold wH
 grind
def gl (l:List zF)(n:Nat):AC:=(List.range n).map fun(i:Nat)=>((jJ l i:Nat):Int)
theorem yYa l i:gl l (i+1)=gl l i++[((jJ l i:Nat):Int)]:=by
 unfold gl
 rw[List.range_succ,List.map_append];rfl
theorem vh l n:(gl l n).length=n:=by
 unfold gl;simp
theorem IM:∀s m i,m.getD i 0-s.length≤(jW s m).getD i 0∧(jW s m).getD i 0≤m.getD i 0
 |[],m,i=>by simp[jW]
 |x::s,m,i=>by
  have h:=IM s (m.set x.toNat (m.getD x.toNat 0-1)) i
  rw[jN] at h
  have e:jW (x::s) m=jW s (m.set x.toNat (m.getD x.toNat 0-1)):=rfl
  rw[e,List.length_cons]
  by_cases c:x.toNat=i∧x.toNat<m.length
  ·grind
  omega
theorem vCw (s m:AC) i (hi:i<s.length):jW (s.take (i+1)) m=(jW (s.take i) m).set (s.getD i 0).toNat ((jW (s.take i) m).getD (s.getD i 0).toNat 0-1):=by
 unfold jW
 rw[←ft s i 0 hi,List.foldl_append]
 rfl
theorem yUb g:∀n,zP (fun x=>x) ((List.range n).map g)=qK g n
 |0=>rfl
 |n+1=>by
  rw[List.range_succ,List.map_append,lh,yUb g n]
  show qK g n+(g n+0)=qK g n+g n
  omega
theorem UD l f:((jJ l f:Nat):Int)=zP (fun p:zF=>if p.2.1=f then 1 else 0) l:=by
 induction l with
 |nil=>rfl
 |cons p l ih=>
  unfold jJ wH at*
  show _=(if p.2.1=f then(1:Int) else 0)+zP _ l
  grind
theorem vUl l n:ma (gl l n)≤l.length:=by
 unfold ma gl
 rw[yUb (fun i:Nat=>((jJ l i:Nat):Int)) n,oH (h:=fun j=>zP (fun p:zF=>if p.2.1=(j:Int) then 1 else 0) l) (fun j _=>UD l j),LP]
 have := (Cu (A := 1) (l := l) (g := fun p : zF => qK (fun j => if p.2.1 = (j : Int) then 1 else 0) n) (fun p _=>by
  by_cases c:0≤p.2.1
  ·obtain⟨f,hf⟩:∃f:Nat,p.2.1=f:=⟨p.2.1.toNat,by omega⟩
   have e:qK (fun j=>if p.2.1=(j:Int) then(1:Int) else 0) n=qK (fun j=>if j=f then 1 else 0) n:=by grind
   rw[e,yq]
   omega
  ·have e:qK (fun j=>if p.2.1=(j:Int) then(1:Int) else 0) n=qK (fun _=>0) n:=by grind
   rw[e,Ti]
   omega)).2
 omega
theorem yWb l n i:(gl l n).getD i 0=if i<n then((jJ l i:Nat):Int) else 0:=by
 unfold gl
 grind
theorem vPa l f:jJ l f≤l.length:=List.length_filter_le _ _
theorem MZ {l}(hl:l.length≤1000) n:nJ (gl l n)∧∀i,(gl l n).getD i 0≤1000:=by
 refine⟨fun i=>?_,fun i=>?_⟩
 ·rw[yWb];omega
 ·rw[yWb]
  have:=vPa l i
  omega
theorem IN {B:BT}{l}(hl:∀q∈l,yI B.1.length q)(bY:l.length≤64) m:vX B.1.length (vA l m):=
 ⟨fun p hp=>hl p ((vg l m).subset hp),by have:=(vg l m).length_le;omega⟩
def yW (l:List zF)(t:Int):List zF:=l.filter (iR t)
theorem IP {n l t}(h:∀q∈l,yI n q):∀q∈yW l t,yI n q:=fun q hq=>h q (List.mem_filter.1 hq).1
theorem vi l t:(yW l t).length≤l.length:=List.length_filter_le _ _
theorem UE {B}(hb:qU B){l}(hl:∀q∈l,yI B.1.length q)(bY:l.length≤64) t:
  ∃f n,j5 B (yW l t) (gl (yW l t) B.1.length) f n∧n≤(yW l t).length:=by
 have h1:=MZ (l:=yW l t) (by have:=vi l t;omega) B.1.length
 have h2:=vUl (yW l t) B.1.length
 exact yF8 (IP hl) (yW l t).length _ (vh _ _) h1.1 (by omega)
def nK (l:List zF)(hs:List zF):List zF:=hs.foldl (fun l p=>jT l p.1) l
theorem UF l id:(jT l id).length≤l.length∧List.Sublist (jT l id) l:=by
 unfold jT gH
 cases vP l id with
 |none=>simp
 |some x=>exact⟨(sR l x).length_le,sR l x⟩
theorem M3:∀hs l,(nK l hs).length≤l.length∧List.Sublist (nK l hs) l
 |[],l=>⟨Nat.le_refl _,List.Sublist.refl _⟩
 |p::hs,l=>by
  obtain⟨h1,h2⟩:=M3 hs (jT l p.1)
  obtain⟨h3,h4⟩:=UF l p.1
  exact⟨Nat.le_trans h1 h3,h2.trans h4⟩
theorem yE4 (l hs:List zF) i (hi:i<hs.length):nK l (hs.take (i+1))=jT (nK l (hs.take i)) (hs.getD i pd).1:=by
 unfold nK
 rw[←ft hs i pd hi,List.foldl_append]
 rfl
def Ef (B:BT)(l hs:List zF)(r:List qR×EQ×AC×EQ×Int):(List (Int×Int×Int))×EQ×AC×EQ×(List zF)×(List zF):=
 bif !(decide (r.2.2.2.2=0)) then(B.1,B.2.1,B.2.2.1,B.2.2.2,l,[]) else(r.1,r.2.1,r.2.2.1,r.2.2.2.1,nK l hs,hs)
theorem UG {k:Nat}{l:List zF}(hk:l.length<k)(hl:qV l){many:AC}(h0:nJ many)(hm:∀i,many.getD i 0≤1000)(D8:many.length≤1000):Eg k l many=some (vA l many):=by
 unfold qV at hl
 unfold Eg UH UI
 rw[qT (by omega) (by omega)]
 simp only[aj,af]
 obtain ⟨s', h1, h2, h3, h4⟩ := yZ (L := fun n i (s : AC × List zF) => Eh k n l l.length i s.1 s.2) (N := l.length) (fun s => s) (fun i s => s.1.length = many.length ∧ (∀ f : Nat, f < many.length → s.1.getD f 0 = if many.getD f 0 ≤ (jJ (l.take i) f : Nat) then 0 else many.getD f 0 - (jJ (l.take i) f : Nat)) ∧ s.2 = l9 l many i) (fun n s _=>by
  show Ei k _ l l.length l.length s.1 s.2=_
  unfold Ei
  simp only [qG, ab (Nat.lt_irrefl _), ak]) (fun n i s hi hs=>by
  obtain⟨s1,s2,s3⟩:=hs
  have eI:s.2.length≤i:=by rw[s3];exact UC l many i
  show∃s',Ei k _ l l.length i s.1 s.2=_∧_
  unfold Ei UJ
  simp only[qH,qJ hi (show l.length<9223372036854775808 by omega),qG,ao,aa hi,aj,lX (show s.2.length≤1000 by omega)]
  have mH:=fun f=>vN6 l i hi f
  have G7:∀f:Nat,f<many.length→(l.getD i pd).2.1≠(f:Int)→(if many.getD f 0≤(jJ (l.take (i+1)) f:Nat) then(0:Int) else many.getD f 0-(jJ (l.take (i+1)) f:Nat))=if many.getD f 0≤(jJ (l.take i) f:Nat) then 0 else many.getD f 0-(jJ (l.take i) f:Nat):=by
   intro f hf bm
   rw[mH f,if_neg bm,Nat.add_zero]
  have skip:qq l many i=false→(∀f:Nat,f<many.length→(l.getD i pd).2.1=(f:Int)→many.getD f 0≤(jJ (l.take i) f:Nat))→(s.1.length=many.length∧(∀f:Nat,f<many.length→s.1.getD f 0=if many.getD f 0≤(jJ (l.take (i+1)) f:Nat) then 0 else many.getD f 0-(jJ (l.take (i+1)) f:Nat))∧s.2=l9 l many (i+1)):=by
   intro hh hz
   refine⟨s1,fun f hf=>?_,?_⟩
   ·by_cases c:(l.getD i pd).2.1=(f:Int)
    ·have:=hz f hf c
     rw[s2 f hf,if_pos this,mH f,if_pos c,if_pos (by omega)]
    ·rw[G7 f hf c,s2 f hf]
   ·show _=l9 l many i++_
    rw[hh,s3];simp
  cases e1:decide ((l.getD i pd).2.1<0) with
  |true=>
   refine⟨s,rfl,skip ?_ ?_⟩
   ·unfold qq
    rw[aP] at e1
    rw[ab (show¬(l.getD i pd).2.1≥0 by omega)];rfl
   ·intro f hf c
    rw[aP] at e1
    omega
  |false=>
   cases e2:decide ((l.getD i pd).2.1≥((s.1.length:Nat):Int)) with
   |true=>
    refine⟨s,rfl,skip ?_ ?_⟩
    ·unfold qq
     rw[aP] at e2
     rw[ab (show¬(l.getD i pd).2.1<(many.length:Int) by omega),Bool.and_false];rfl
    ·intro f hf c
     rw[aP] at e2
     omega
   |false=>
    rw[decide_eq_false_iff_not] at e1 e2
    obtain⟨f,hf⟩:∃f:Nat,(l.getD i pd).2.1=f:=⟨(l.getD i pd).2.1.toNat,by omega⟩
    have K1:f<many.length:=by omega
    have dV:(l.getD i (0,(0,(0,(0,(0,(0,0))))))).2.1=f:=hf
    simp only[ak,dV,qH,ao,s1,aa K1,aj]
    have xN:qq l many i=decide (((jJ (l.take i) f:Nat):Int)<many.getD f 0):=by
     unfold qq
     rw[hf,aa (show(f:Int)≥0 by omega),aa (show(f:Int)<(many.length:Int) by omega),ao]
     rfl
    have lk:=s2 f K1
    cases e3:decide (s.1.getD f 0<1) with
    |true=>
     rw[aP,lk] at e3
     have hle:many.getD f 0≤(jJ (l.take i) f:Nat):=by
      by_cases c:many.getD f 0≤(jJ (l.take i) f:Nat)
      ·exact c
      ·rw[if_neg c] at e3;omega
     refine⟨s,rfl,skip (by rw[xN];exact ab (by omega)) ?_⟩
     intro g hg c
     have:g=f:=by omega
     subst this
     exact hle
    |false=>
     rw[decide_eq_false_iff_not] at e3
     have hgt:¬many.getD f 0≤(jJ (l.take i) f:Nat):=by
      intro c
      rw[lk,if_pos c] at e3
      omega
     rw[if_neg hgt] at lk
     have uI:=hm f
     have hw:zA (s.1.getD f 0-1)=s.1.getD f 0-1:=zR (by omega) (by omega)
     refine⟨(s.1.set f (s.1.getD f 0-1),s.2++[l.getD i pd]),?_,?_,?_,?_⟩
     ·simp only[ak,af,aj,hw]
     ·rw[List.length_set];exact s1
     ·intro g hg
      rw[jN]
      by_cases c:f=g
      ·subst c
       rw[if_pos ⟨rfl,by omega⟩,mH f,if_pos hf,lk]
       by_cases d:many.getD f 0≤((jJ (l.take i) f+1:Nat):Int)
       ·rw[if_pos d];omega
       ·rw[if_neg d];omega
      ·rw[if_neg (fun e=>c e.1),G7 g hg (by omega)]
       exact s2 g hg
     ·show s.2++[l.getD i pd]=l9 l many i++_
      rw[xN,aa (by omega),s3];rfl) (s:=(many,[])) hk ⟨rfl,fun f hf=>by
   have:(jJ (l.take 0) f:Nat)=0:=rfl
   have h0f:=h0 f
   rw[this]
   by_cases c:many.getD f 0≤((0:Nat):Int)
   ·rw[if_pos c]
    show many.getD f 0=0
    omega
   ·rw[if_neg c]
    show many.getD f 0=_
    omega,rfl⟩
 have dO:Eh k k l l.length 0 many []=some s':=h1
 rw[dO]
 simp only[af,h4]
 rfl
theorem yBm {k:Nat}{l:List zF}(hk:l.length<k)(hl:qV l)(f:Int):IQ k l f=some (l.filter (wH f)):=by
 unfold IQ UK
 have := Ik pd (L := fun n i s => IS k n l l.length i f s) (wH f) id (fun n s=>by
  show Ej k _ l l.length l.length f s=_
  unfold Ej
  simp only [qG, ab (Nat.lt_irrefl _), ak]; rfl) (fun n i s hi hs=>by
  show Ej k _ l l.length i f s=_
  unfold Ej UL
  unfold qV at hl
  simp only[qH,qJ hi (show l.length<9223372036854775808 by omega),qG,ao,aa hi,aj,lX (show s.length≤1000 by omega)]
  unfold wH
  cases h1:decide ((l.getD i pd).2.1=f)<;>rfl) hk
 rw[this]
 rfl
theorem UM {k:Nat}{B:BT}{l:List zF}(hk:l.length<k)(hl:qV l)(hn:B.1.length<k)(hn':B.1.length≤1000)(s7:Int):
  zm k k s7 B.1.length 0 B.1 B.2.1 B.2.2.1 B.2.2.2 [] l=some (s7,B.1,B.2.1,B.2.2.1,B.2.2.2,gl l B.1.length,l):=by
 obtain ⟨s', h1, h2⟩ := yZ (L := fun n i (s : AC) => zm k n s7 B.1.length i B.1 B.2.1 B.2.2.1 B.2.2.2 s l) (N := B.1.length) (fun s => (s7, B.1, B.2.1, B.2.2.1, B.2.2.2, s, l)) (fun i s => s = gl l i) (fun n s _=>by
  show Ek k _ s7 B.1.length B.1.length B.1 B.2.1 B.2.2.1 B.2.2.2 s l=_
  unfold Ek
  simp only [qG, ab (Nat.lt_irrefl _), ak]) (fun n i s hi hs=>by
  refine⟨_,?_,(yYa l i).symm⟩
  show Ek k _ s7 B.1.length i B.1 B.2.1 B.2.2.1 B.2.2.2 s l=_
  unfold Ek
  have hr:zO (s.length+1) 8=true:=by rw[hs,vh];exact qT (by omega) (by omega)
  simp only[qG,aa hi,aj,yBm hk hl,af,hr,qJ hi (show B.1.length<9223372036854775808 by omega)]
  rw[hs]
  rfl) (s:=[]) hn rfl
 exact h1.trans (by rw[h2])
theorem vIg {k:Nat}{B:BT}{l:List zF}{s m:AC}(hk:s.length<k)(hs:s.length≤1000)(fk:∀x∈s,0≤x∧x<(m.length:Int))(h0:nJ m)(hm:∀i,m.getD i 0≤1000)(s7:Int):
  El k k s7 s.length 0 B.1 B.2.1 B.2.2.1 B.2.2.2 m l s=some (s7,B.1,B.2.1,B.2.2.1,B.2.2.2,jW s m,l):=by
 obtain ⟨s', h1, h2⟩ := yZ (L := fun n i (r : AC) => El k n s7 s.length i B.1 B.2.1 B.2.2.1 B.2.2.2 r l s) (N := s.length) (fun r => (s7, B.1, B.2.1, B.2.2.1, B.2.2.2, r, l)) (fun i r => r = jW (s.take i) m) (fun n r _=>by
  show Em k _ s7 s.length s.length B.1 B.2.1 B.2.2.1 B.2.2.2 r l s=_
  unfold Em
  simp only [qG, ab (Nat.lt_irrefl _), ak]) (fun n i r hi hr=>by
  refine⟨_,?_,(vCw s m i hi).symm⟩
  show Em k _ s7 s.length i B.1 B.2.1 B.2.2.1 B.2.2.2 r l s=_
  unfold Em
  obtain⟨b1,b2⟩:=fk _ (jK (d:=0) hi)
  have uf:r.length=m.length:=by rw[hr,sY]
  have hb:zB (s.getD i 0) r.length=true:=fq b1 (by omega)
  have Ct:=IM (s.take i) m (s.getD i 0).toNat
  have G0:=h0 (s.getD i 0).toNat
  have uI:=hm (s.getD i 0).toNat
  have bd:(s.take i).length≤s.length:=List.length_take_le' _ _
  have hw:zA (r.getD (s.getD i 0).toNat 0-1)=r.getD (s.getD i 0).toNat 0-1:=by
   rw[hr]
   exact zR (by omega) (by omega)
  simp only[qG,qH,ao,aa hi,aj,hb,hw,qJ hi (show s.length<9223372036854775808 by omega)]
  rw[hr]) (s:=m) hk rfl
 have:=h1.trans (by rw[h2,List.take_length])
 exact this
theorem vRg {k:Nat}(hk:100<k){B:BT}(hb:qU B){l:List zF}(hl:∀q∈l,yI B.1.length q)(bY:l.length≤64){m f:AC}{n:Nat}(h:j5 B l m f n):
  ∀(N:Nat) (s7:Int),m.length=B.1.length→nJ m→(∀i,m.getD i 0≤1000)→n<N→0≤s7→s7+n<1000000→
  IT k N s7 B.1 B.2.1 B.2.2.1 B.2.2.2 m l=some (s7+n+1,f):=by
 induction h with
 |@stop m h=>
  intro N s7 hm h0 h1 hn hs uj
  obtain⟨N,rfl⟩:∃x,N=x+1:=⟨N-1,by omega⟩
  have hZ:=hb.n6
  show En k _ s7 B.1 B.2.1 B.2.2.1 B.2.2.2 m l=_
  unfold En
  have hS:=T1 hk hb (IN hl bY m)
  have nn:za k B.1 B.2.1 B.2.2.1 B.2.2.2 (vA l m)=some (jP B (vA l m)):=hS
  rw[UG (by omega) (show qV l by show l.length≤1000;omega) h0 h1 (by omega)]
  simp only[af]
  rw[nn,h]
  simp only[af]
  have w:zA (s7+1)=s7+1:=zR (by omega) (by omega)
  rw[w]
  simp
 |@step m f n h h' ih=>
  intro N s7 hm h0 h1 hn hs uj
  obtain⟨N,rfl⟩:∃x,N=x+1:=⟨N-1,by omega⟩
  have hZ:=hb.n6
  show En k _ s7 B.1 B.2.1 B.2.2.1 B.2.2.2 m l=_
  unfold En
  have hS:=T1 hk hb (IN hl bY m)
  have nn:za k B.1 B.2.1 B.2.2.1 B.2.2.2 (vA l m)=some (jP B (vA l m)):=hS
  rw[UG (by omega) (show qV l by show l.length≤1000;omega) h0 h1 (by omega)]
  simp only[af]
  rw[nn]
  simp only[af]
  have w:zA (s7+1)=s7+1:=zR (by omega) (by omega)
  have bm : decide ((((jP B (vA l m)).length : Nat) : Int) = 0) = false := ab (by
   have:=List.length_pos_iff.2 h
   omega)
  have eI:(jP B (vA l m)).length≤B.1.length:=by
   unfold jP sP
   rw[List.length_map]
   have:=List.length_filter_le (fun i=>fu B.1 B.2.1 B.2.2.1 B.2.2.2 (vA l m) i) (List.range B.1.length)
   rwa [List.length_range] at this
  rw[bm,w]
  simp only[ak]
  rw[vIg (by omega) (by omega) (by rw[hm];exact UB) h0 h1]
  simp only[af]
  have UN:=MY hl hm h0
  have:=ih N (s7+1) ((sY _ _).trans hm) UN (fun i=>by have:=(IM (jP B (vA l m)) m i).2;have:=h1 i;omega) (by omega) (by omega) (by omega)
  rw[this]
  congr 2
  omega
theorem vF7 {k:Nat}(hk:100<k){B:BT}(hb:qU B){l:List zF}(hl:∀q∈l,yI B.1.length q)(bY:l.length≤64)(t:Int){f:AC}{n:Nat}(hn:n≤l.length)(h:j5 B (yW l t) (gl (yW l t) B.1.length) f n):
  M4 k B.1 B.2.1 B.2.2.1 B.2.2.2 l t=some (f,((n+1:Nat):Int)):=by
 have hZ:=hb.n6
 have hr:=vi l t
 have h1:=MZ (l:=yW l t) (by omega) B.1.length
 unfold M4
 rw[T5 (by omega) (by show l.length≤1000;omega)]
 simp only[af]
 have e:zm k k 0 B.1.length 0 B.1 B.2.1 B.2.2.1 B.2.2.2 [] (l.filter (iR t))=_:=UM (k:=k) (B:=B) (l:=yW l t) (by omega) (by show(yW l t).length≤1000;omega) (by omega) (by omega) 0
 rw[e]
 simp only[af]
 rw[vRg hk hb (IP hl) (by omega) h k 0 (vh _ _) h1.1 h1.2 (by omega) (by omega) (by omega)]
 simp
theorem vP4 {k:Nat}{C:BT}{l hs:List zF}(hl:l.length<k)(dG:l.length≤1000)(hk:hs.length<k)(hh:hs.length≤1000):
  zn k k l hs.length 0 C.1 C.2.1 C.2.2.1 C.2.2.2 hs=some (nK l hs,C.1,C.2.1,C.2.2.1,C.2.2.2,hs):=by
 obtain ⟨s', h1, h2⟩ := yZ (L := fun n i (s : List zF) => zn k n s hs.length i C.1 C.2.1 C.2.2.1 C.2.2.2 hs) (N := hs.length) (fun s => (s, C.1, C.2.1, C.2.2.1, C.2.2.2, hs)) (fun i s => s = nK l (hs.take i)) (fun n s _=>by
  show Eo k _ s hs.length hs.length C.1 C.2.1 C.2.2.1 C.2.2.2 hs=_
  unfold Eo
  simp only [qG, ab (Nat.lt_irrefl _), ak]) (fun n i s hi hr=>by
  refine⟨_,?_,(yE4 l hs i hi).symm⟩
  show Eo k _ s hs.length i C.1 C.2.1 C.2.2.1 C.2.2.2 hs=_
  unfold Eo
  have eI:=(M3 (hs.take i) l).1
  rw[←hr] at eI⊢
  simp only[qG,qH,ao,aa hi,aj,zg (show s.length<k by omega) (show qV s by show s.length≤1000;omega),af,qJ hi (show hs.length<9223372036854775808 by omega)]
  rfl) (s:=l) hk rfl
 have:=h1.trans (by rw[h2,List.take_length])
 exact this
theorem UO {k:Nat}(hk:100<k){B:BT}(hb:qU B){l:List zF}(hl:∀q∈l,yI B.1.length q)(bY:l.length≤64)(t:Int){f:AC}{n:Nat}(hn:n≤l.length)(h:j5 B (yW l t) (gl (yW l t) B.1.length) f n)
  {r:List qR×EQ×AC×EQ×Int} (hr:oN k B.1 B.2.1 B.2.2.1 B.2.2.2 (vA (yW l t) f)=some r):zo k B.1 B.2.1 B.2.2.1 B.2.2.2 l t=some (Ef B l (vA (yW l t) f) r):=by
 have hZ:=hb.n6
 have uf:=vi l t
 have h1:=MZ (l:=yW l t) (by omega) B.1.length
 have hle:=h.le (vh _ _)
 have h0:=h.nonneg (IP hl) (vh _ _) h1.1
 have K1:f.length=B.1.length:=hle.1.trans (vh _ _)
 have hf:∀i,f.getD i 0≤1000:=fun i=>by
  by_cases c:i<(gl (yW l t) B.1.length).length
  ·have:=hle.2 i c
   have:=h1.2 i
   omega
  ·rw[List.getD_eq_getElem?_getD,List.getElem?_eq_none (by have:=hle.1;omega)]
   show(0:Int)≤1000
   omega
 have M5:=(vg (yW l t) f).length_le
 unfold zo
 rw[vF7 hk hb hl bY t hn h,T5 (by omega) (by show l.length≤1000;omega)]
 simp only[af]
 have e:Eg k (l.filter (iR t)) f=_:=UG (k:=k) (l:=yW l t) (by omega) (by show(yW l t).length≤1000;omega) h0 hf (by omega)
 rw[e]
 simp only[af]
 rw[hr]
 simp only[af]
 unfold Ef
 cases decide (r.2.2.2.2=0) with
 |false=>rfl
 |true=>
  simp only[aA,ak]
  have e2:zn k k l ((List.length (vA (yW l t) f):Nat):Int) 0 r.1 r.2.1 r.2.2.1 r.2.2.2.1 (vA (yW l t) f)=_:=vP4 (C:=(r.1,r.2.1,r.2.2.1,r.2.2.2.1)) (by omega) (by omega) (by omega) (by omega)
  rw[e2]
  rfl
theorem vZm {l:List zF}{x:Nat}(hx:x<l.length):List.Perm (l.getD x pd::yB l x) l:=by
 unfold yB
 have h:List.Perm (l.getD x pd::(l.take x++l.drop (x+1))) (l.take x++l.getD x pd::l.drop (x+1)):=List.perm_middle.symm
 have e:=Ir l x pd hx
 rw[←e] at h
 exact h
theorem M6 {l:List zF}(hd:qO l){p:zF}(hp:p∈l):List.Perm (p::jT l p.1) l:=by
 obtain⟨x,hx⟩:=MD hp
 have h:=j0 hx
 have e:l.getD x pd=p:=hd.eq_of (jK h.1) hp h.2
 unfold jT gH
 rw[hx]
 have:=vZm h.1
 rw[e] at this
 exact this
theorem gk.perm {k:Nat}{t:Int}{B C:BT}{l done m:List zF}(h:gk k t B l done C m)(hd:qO l):List.Perm (done++m) l:=by
 induction h with
 |stop _=>exact List.Perm.refl _
 |step h _ ih=>
  have hp:=D6 (zk h).1
  exact((ih (List.Pairwise.sublist (sW hp).2 hd)).cons _).trans (M6 hd hp)
theorem jH.perm {k:Nat}{t:Int}{B C:BT}{l done m:List zF}(h:jH k t B l done C m)(hd:qO l):List.Perm (done++m) l:=by
 induction h with
 |stop _=>exact List.Perm.refl _
 |step h _ ih=>
  obtain⟨hp,hq,nI,_⟩:=Ea h
  obtain⟨h1,h2⟩:=Eb hd hp hq nI
  have uk:qO (jT _ _):=List.Pairwise.sublist (sW hp).2 hd
  have nG:=Uz hp hq (yIc hd hp hq nI)
  exact(((ih (List.Pairwise.sublist h2 hd)).cons _).cons _).trans (((M6 uk nG).cons _).trans (M6 hd hp))
theorem gk.final {k:Nat}{t:Int}{B C:BT}{l done m:List zF}(h:gk k t B l done C m):fw k C (vW m t)=none:=by
 induction h with
 |stop h=>exact h
 |step _ _ ih=>exact ih
theorem jH.final {k:Nat}{t:Int}{B C:BT}{l done m:List zF}(h:jH k t B l done C m):fh k C m t=none:=by
 induction h with
 |stop h=>exact h
 |step _ _ ih=>exact ih
theorem qO.perm {l m:List zF}(h:qO l)(hp:List.Perm m l):qO m:=(List.Perm.pairwise_iff (R:=fun p q:zF=>p.1≠q.1) (fun tZ=>Ne.symm tZ) hp.symm).1 h
inductive ll (k:Nat) (t:Int):BT→List zF→List zF→BT→List zF→Prop
 |stop {B C:BT} {l m d:List zF} (h1:gk k t B l d C m) (h2:fh k C m t=none):ll k t B l d C m
 |step {B C D E:BT} {l m n o d e f:List zF} (h1:gk k t B l d C m) (h2:jH k t C m e D n) (ne:e≠[]) (h':ll k t D n f E o):ll k t B l (d++e++f) E o
theorem ll.perm {k:Nat}{t:Int}{B C:BT}{l done m:List zF}(h:ll k t B l done C m)(hd:qO l):List.Perm (done++m) l:=by
 induction h with
 |stop h1 _=>exact h1.perm hd
 |@step B C D E l m n o d e f h1 h2 ne h' ih=>
  have p1:=h1.perm hd
  have hd1:=hd.perm p1
  have hm:qO m:=(List.pairwise_append.1 hd1).2.1
  have p2:=h2.perm hm
  have hn:qO n:=(List.pairwise_append.1 (hm.perm p2)).2.1
  have p3:=ih hn
  have e1:d++e++f++o=d++(e++(f++o)):=by simp
  rw[e1]
  exact((p3.append_left e).append_left d).trans ((p2.append_left d).trans p1)
theorem ll.final {k:Nat}{t:Int}{B C:BT}{l done m:List zF}(h:ll k t B l done C m):fw k C (vW m t)=none∧fh k C m t=none:=by
 induction h with
 |stop h1 h2=>exact⟨h1.final,h2⟩
 |step _ _ _ _ ih=>exact ih
theorem gk.none {k:Nat}{t:Int}{B C:BT}{l done m:List zF}(h:gk k t B l done C m)(hn:fw k B (vW l t)=none):done=[]∧C=B∧m=l:=by
 cases h with
 |stop _=>exact⟨rfl,rfl,rfl⟩
 |step h _=>rw[hn] at h;cases h
theorem jH.none {k:Nat}{t:Int}{B C:BT}{l done m:List zF}(h:jH k t B l done C m)(hn:fh k B l t=none):done=[]∧C=B∧m=l:=by
 cases h with
 |stop _=>exact⟨rfl,rfl,rfl⟩
 |step h _=>rw[hn] at h;cases h
theorem jH.nil {k:Nat}{t:Int}{B C:BT}{l m:List zF}(h:jH k t B l [] C m):fh k B l t=Option.none∧C=B∧m=l:=by
 cases h with
 |stop h=>exact⟨h,rfl,rfl⟩
theorem ll.none {k:Nat}{t:Int}{B C:BT}{l done m:List zF}(h:ll k t B l done C m)(h1:fw k B (vW l t)=Option.none)(h2:fh k B l t=Option.none):done=[]∧C=B∧m=l:=by
 cases h with
 |stop g1 _=>exact g1.none h1
 |step g1 g2 ne _=>
  obtain⟨rfl,rfl,rfl⟩:=g1.none h1
  obtain⟨rfl,_,_⟩:=g2.none h2
  exact absurd rfl ne
theorem vAi {k:Nat}(hk:200≤k)(t:Int):∀(n:Nat) (B:BT) (l r:List zF),qU B→qO l→l.length≤100→l.length<n→r.length+l.length≤900→
  ∃(C:BT) (m done:List zF),IU k n t l B.1 B.2.1 B.2.2.1 B.2.2.2 r=some (m,C.1,C.2.1,C.2.2.1,C.2.2.2,r++done)∧ll k t B l done C m∧qU C∧C.1.length=B.1.length∧List.Sublist m l
 |0,_,_,_,_,_,_,h,_=>absurd h (Nat.not_lt_zero _)
 |n+1,B,l,r,hb,hd,hl,hn,hr=>by
  obtain⟨C,m,d,f1,f2,f3,f4,f5⟩:=vSf hk hb hd hl t
  have p1:=f2.perm hd
  have l1:=p1.length_eq
  rw[List.length_append] at l1
  have hm:qO m:=List.Pairwise.sublist f5 hd
  obtain⟨D,o,e,g1,g2,g3,g4,g5⟩:=vIz hk f3 hm (by omega) t
  have p2:=g2.perm hm
  have l2:=p2.length_eq
  rw[List.length_append] at l2
  have r1:zO (r.length+d.length) 56=true:=qT (by omega) (by omega)
  have r2:zO ((r++d).length+e.length) 56=true:=qT (by rw[List.length_append];omega) (by rw[List.length_append];omega)
  show∃C' m' abI,M7 k _ t l B.1 B.2.1 B.2.2.1 B.2.2.2 r=_∧_
  unfold M7
  rw[f1]
  simp only[af]
  rw[g1]
  simp only[af,r1,r2,aj]
  cases e with
  |nil=>
   obtain⟨h1,h2,h3⟩:=g2.nil
   subst h2;subst h3
   refine⟨D,o,d,?_,.stop f2 h1,f3,f4,f5⟩
   simp
  |cons p e=>
   have bd:o.length+(e.length+1)=m.length:=by simp at l2;omega
   obtain⟨E,q,f,k1,k2,k3,k4,k5⟩:=vAi hk t n D o (r++d++(p::e)) g3 (List.Pairwise.sublist g5 hm) (by omega) (by omega) (by simp;omega)
   refine⟨E,q,d++(p::e)++f,?_,.step f2 g2 (by simp) k2,k3,k4.trans (g4.trans f4),k5.trans (g5.trans f5)⟩
   have e1:decide ((((p::e).length:Nat):Int)=0)=false:=ab (by simp;omega)
   rw[e1]
   simp only[ak]
   rw[k1]
   simp
theorem Ep {k:Nat}(hk:200≤k){B:BT}(hb:qU B){l:List zF}(hd:qO l)(hl:l.length≤100)(t:Int):
  ∃(C:BT) (m done:List zF),IV k B.1 B.2.1 B.2.2.1 B.2.2.2 l t=some (C.1,C.2.1,C.2.2.1,C.2.2.2,m,done)∧ll k t B l done C m∧qU C∧C.1.length=B.1.length∧List.Sublist m l:=by
 obtain⟨C,m,done,h1,h3⟩:=vAi hk t k B l [] hb hd hl (by omega) (by simp;omega)
 refine⟨C,m,done,?_,h3⟩
 unfold IV
 rw[h1]
 rfl
theorem yE0:∀(hs l:List zF),qO l→qO hs→(∀q∈hs,q∈l)→List.Perm (hs++nK l hs) l
 |[],l,_,_,_=>List.Perm.refl _
 |p::hs,l,hd,hh,fk=>by
  have hp:=fk p (List.mem_cons_self ..)
  obtain⟨h1,h2⟩:=sW hp
  have hc:=List.pairwise_cons.1 hh
  have:=yE0 hs (jT l p.1) (List.Pairwise.sublist h2 hd) hc.2 (fun q hq=>Uz hp (fk q (List.mem_cons_of_mem _ hq)) (fun e=>hc.1 q hq e.symm))
  exact(this.cons p).trans (M6 hd hp)
theorem vV0 {k:Nat}(hk:100<k){B:BT}(hb:qU B):oN k B.1 B.2.1 B.2.2.1 B.2.2.2 []=some (B.1,B.2.1,B.2.2.1,B.2.2.2,0):=by
  obtain⟨r,h1,h3⟩:=Mh hk hb (l:=[]) (by simp)
  have aW:vX B.1.length []:=⟨fun p hp=>(by cases hp),by simp⟩
  obtain⟨a',p',h4,h5⟩:=h3.1 aW
  have an:sL B.1.length B.1 B.2.2.2 [] B.1 B.2.2.2:={
    al:=rfl
    acct:=fun i hi=>by
      have hc:=hb.acct i hi
      have hr:0≤(B.1.getD i ad).2.2:=by
        have:=hb.nums.res i hi
        exact this.1
      show B.1.getD i ad=((B.1.getD i ad).1+0,(B.1.getD i ad).2.1,wR (B.1.getD i ad).2.2 0)
      have e:wR (B.1.getD i ad).2.2 0=(B.1.getD i ad).2.2:=by
        unfold wR
        split<;>omega
      rw[e,Int.add_zero]
    pl:=hb.pl
    pr:=hb.pr
    cell:=fun i hi j hj=>by show _=_+0-0;omega}
  obtain⟨e1,e2⟩:=h4.same an
  subst e1;subst e2
  rw[TB.2 hb] at h5
  rw[h1,h5]
  rfl
theorem UP {k:Nat}(hk:200≤k){B:BT}(hb:qU B){l:List zF}(hd:qO l)(hl:∀q∈l,yI B.1.length q)(bY:l.length≤64)(t:Int):
  ∃(C:BT) (m done:List zF),zo k B.1 B.2.1 B.2.2.1 B.2.2.2 l t=some (C.1,C.2.1,C.2.2.1,C.2.2.2,m,done)∧qU C∧C.1.length=B.1.length∧List.Sublist m l∧List.Perm (done++m) l∧(done=[]→C=B∧m=l):=by
 obtain⟨f,n,h,hn⟩:=UE hb hl bY t
 have uf:=vi l t
 have cm:=vg (yW l t) f
 have M5:=cm.length_le
 obtain⟨r,h1,h2,h3⟩:=D5 (k:=k) (by omega) hb (l:=vA (yW l t) f) (by omega)
 have hs:=Mi hb h3
 have g1:=UO (k:=k) (by omega) hb hl bY t (by omega) h h1
 unfold Ef at g1
 cases c:decide (r.2.2.2.2=0) with
 |false=>
  rw[c] at g1
  exact⟨B,l,[],g1,hb,rfl,List.Sublist.refl _,List.Perm.refl _,fun _=>⟨rfl,rfl⟩⟩
 |true=>
  rw[c] at g1
  have eI:List.Sublist (vA (yW l t) f) l:=cm.trans List.filter_sublist
  have hal:r.1.length=B.1.length:=by
   by_cases c':vX B.1.length (vA (yW l t) f)
   ·obtain⟨a',p',x,e⟩:=h3.1 c'
    cases hi:lW a' B.2.1 B.2.2.1 p' with
    |false=>rw[hi] at e;subst e;rfl
    |true=>rw[hi] at e;subst e;exact x.al
   ·rw[h3.2 c']
  refine⟨(r.1,r.2.1,r.2.2.1,r.2.2.2.1),nK l (vA (yW l t) f),vA (yW l t) f,g1,hs.2.1,hal,(M3 _ _).2,yE0 _ _ hd (List.Pairwise.sublist eI hd) (fun q hq=>eI.subset hq),fun e=>?_⟩
  rw[e] at h1⊢
  rw[vV0 (by omega) hb] at h1
  cases h1
  exact⟨rfl,rfl⟩
theorem vZp {k:Nat}(hk:200≤k){B:BT}(hb:qU B){l:List zF}(hd:qO l)(hl:∀q∈l,yI B.1.length q)(bY:l.length≤64)(t:Int)(all:Bool):
  ∃(C:BT) (m done:List zF),vj k B.1 B.2.1 B.2.2.1 B.2.2.2 l t all=some (C.1,C.2.1,C.2.2.1,C.2.2.2,m,done)∧qU C∧C.1.length=B.1.length∧List.Sublist m l∧List.Perm (done++m) l∧fw k C (vW m t)=none∧fh k C m t=none:=by
 obtain⟨C,m,d,f1,f2,f3,f4,f5⟩:=Ep hk hb hd (by omega) t
 have p1:=f2.perm hd
 have l1:=p1.length_eq
 rw[List.length_append] at l1
 unfold vj
 rw[f1]
 simp only[af]
 cases all with
 |false=>exact⟨C,m,d,rfl,f3,f4,f5,p1,f2.final⟩
 |true=>
  simp only[aA,ak]
  have hm:qO m:=List.Pairwise.sublist f5 hd
  obtain⟨D,n,x,g1,g2,g3,g4,g5,g6⟩:=UP hk f3 hm (fun q hq=>by rw[f4];exact hl q (f5.subset hq)) (by omega) t
  have l2:=g5.length_eq
  rw[List.length_append] at l2
  rw[g1]
  simp only[af]
  cases x with
  |nil=>
   obtain⟨rfl,rfl⟩:=g6 rfl
   exact⟨D,n,d,rfl,f3,f4,f5,p1,f2.final⟩
  |cons p x=>
   have e1:decide ((((p::x).length:Nat):Int)=0)=false:=ab (by simp;omega)
   rw[e1]
   simp only[ak]
   have hn:qO n:=List.Pairwise.sublist g4 hm
   obtain⟨E,o,y,k1,k2,k3,k4,k5⟩:=Ep hk g2 hn (by omega) t
   have p3:=k2.perm hn
   have l3:=p3.length_eq
   rw[List.length_append] at l3
   have r1:zO (d.length+(p::x).length) 56=true:=qT (by simp at l2⊢;omega) (by simp at l2⊢;omega)
   have r2:zO ((d++(p::x)).length+y.length) 56=true:=qT (by simp at l2⊢;omega) (by simp at l2⊢;omega)
   rw[k1]
   simp only[af,r1,r2,aj]
   refine⟨E,o,d++(p::x)++y,rfl,k3,k4.trans (g3.trans f4),k5.trans (g4.trans f5),?_,k2.final⟩
   have e2:d++(p::x)++y++o=d++((p::x)++(y++o)):=by simp
   rw[e2]
   exact((p3.append_left (p::x)).append_left d).trans ((g5.append_left d).trans p1)
abbrev yA:=Int×Int×Int×Int×Int×Int×Int×Int
abbrev od:yA:=(0,(0,(0,(0,(0,(0,(0,0)))))))
instance zp:DecidableEq yA:=@instDecidableEqProd Int (Int×Int×Int×Int×Int×Int×Int) inferInstance (@instDecidableEqProd Int (Int×Int×Int×Int×Int×Int) inferInstance inferInstance)
def eY (to:Int)(p:zF):yA:=(to,18,p.1,p.2.1,p.2.2.1,p.2.2.2.1,0,0)
def qs (p:zF):List yA:=[eY p.2.1 p,eY p.2.2.1 p]
def vD:List zF→List yA
 |[]=>[]
 |p::l=>qs p++vD l
theorem yCh:∀l m,vD (l++m)=vD l++vD m
 |[],_=>rfl
 |p::l,m=>by
  show qs p++vD (l++m)=qs p++vD l++vD m
  rw[yCh l m,List.append_assoc]
theorem Er:∀l,(vD l).length=2*l.length
 |[]=>rfl
 |p::l=>by
  show(qs p++vD l).length=_
  rw[List.length_append,Er l]
  simp[qs]
  omega
theorem qZq (l:List zF) i (hi:i<l.length):vD (l.take (i+1))=vD (l.take i)++qs (l.getD i pd):=by
 rw[←ft l i pd hi,yCh]
 rfl
theorem vk {n}(h:n≤1000):zO (n+1) 64=true:=qT (by omega) (by omega)
theorem vZz {k}(hk:3≤k)(s8:List zF) s9 aw (r:List yA)(hr:r.length≤900) p:
  vl k k s8 s9 aw 2 0 r p.1 p.2.1 p.2.2.1 p.2.2.2.1 p.2.2.2.2.1 p.2.2.2.2.2.1 p.2.2.2.2.2.2 [p.2.1,p.2.2.1]=some (s8,s9,aw,r++qs p):=by
 obtain⟨n,rfl⟩:∃n,k=n+3:=⟨k-3,by omega⟩
 have e1:zO (r.length+1) 64=true:=vk (by omega)
 have e2:zO ((r++[eY p.2.1 p]).length+1) 64=true:=vk (by grind)
 have h1:oT (n+3) p.2.1 18 [p.1,p.2.1,p.2.2.1,p.2.2.2.1]=some (eY p.2.1 p):=rfl
 have h2:oT (n+3) p.2.2.1 18 [p.1,p.2.1,p.2.2.1,p.2.2.2.1]=some (eY p.2.2.1 p):=rfl
 have w0:zA (0+1)=1:=by decide
 have w1:zA (1+1)=2:=by decide
 show vm (n+3) (vl (n+3) (n+2)) s8 s9 aw 2 0 r p.1 p.2.1 p.2.2.1 p.2.2.2.1 p.2.2.2.2.1 p.2.2.2.2.2.1 p.2.2.2.2.2.2 [p.2.1,p.2.2.1]=_
 unfold vm
 have g0:[p.2.1,p.2.2.1].getD (Int.toNat 0) 0=p.2.1:=rfl
 have b0:zB 0 [p.2.1,p.2.2.1].length=true:=rfl
 have d0:decide ((0:Int)<2)=true:=rfl
 simp[e1]
 show vm (n+3) (vl (n+3) (n+1)) s8 s9 aw 2 1 (r++[eY p.2.1 p]) p.1 p.2.1 p.2.2.1 p.2.2.2.1 p.2.2.2.2.1 p.2.2.2.2.2.1 p.2.2.2.2.2.2 [p.2.1,p.2.2.1]=_
 unfold vm
 have g1:[p.2.1,p.2.2.1].getD (Int.toNat 1) 0=p.2.2.1:=rfl
 have b1:zB 1 [p.2.1,p.2.2.1].length=true:=rfl
 have d1:decide ((1:Int)<2)=true:=rfl
 simp only[aj,af,e2]
 show vm (n+3) (vl (n+3) n) s8 s9 aw 2 2 (r++[eY p.2.1 p]++[eY p.2.2.1 p]) p.1 p.2.1 p.2.2.1 p.2.2.2.1 p.2.2.2.2.1 p.2.2.2.2.2.1 p.2.2.2.2.2.2 [p.2.1,p.2.2.1]=_
 unfold vm
 have d2:decide ((2:Int)<2)=false:=rfl
 rw[d2,List.append_assoc]
 rfl
theorem yQ2 {k}{l:List zF}(hk:l.length+3≤k)(hl:l.length≤400):M8 k l=some (vD l):=by
 unfold M8
 obtain ⟨s', h1, h2⟩ := yZ (L := fun n i (s : List yA) => IW k n l l.length i s) (N := l.length) (fun s => s) (fun i s => s = vD (l.take i)) (fun n s _=>by
  show Es k _ l l.length l.length s=_
  unfold Es
  simp) (fun n i s hi hs=>by
  refine⟨_,?_,(qZq l i hi).symm⟩
  show Es k _ l l.length i s=_
  unfold Es
  have eI:s.length≤900:=by
   rw[hs,Er,List.length_take];omega
  have h2:=vZz (k:=k) (by omega) l l.length i s eI (l.getD i pd)
  simp only[qH,qG,ao,aa hi,aj]
  rw[h2]
  simp[qJ hi (by grind)]
  rw[hs]) (s:=[]) (show l.length<k by omega) rfl
 simp_all
theorem vLl {k}{l:List zF}(hk:l.length+5≤k)(hl:l.length≤400):M9 k l=some (vD l):=by
 unfold M9
 obtain ⟨s', h1, h2⟩ := yZ (L := fun n i (s : List yA) => IX k n l i s) (N := l.length) (fun s => s) (fun i s => s = vD (l.take i)) (fun n s _=>by
  show Et k _ l l.length s=_
  unfold Et
  simp) (fun n i s hi hs=>by
  refine⟨_,?_,(qZq l i hi).symm⟩
  show Et k _ l i s=_
  unfold Et
  have eI:s.length≤900:=by
   rw[hs,Er,List.length_take];omega
  obtain⟨j,rfl⟩:∃j,k=j+5:=⟨k-5,by omega⟩
  have e2:zO (s.length+2) 64=true:=qT (by omega) (by omega)
  simp[qH,aa hi,e2,qJ hi (by grind)]
  rw[hs]
  rfl) (s:=[]) (show l.length<k by omega) rfl
 simp_all
theorem eq8 (p q:yA):((decide (p.1=q.1))&&((decide (p.2.1=q.2.1))&&((decide (p.2.2.1=q.2.2.1))&&((decide (p.2.2.2.1=q.2.2.2.1))&&((decide (p.2.2.2.2.1=q.2.2.2.2.1))&&((decide (p.2.2.2.2.2.1=q.2.2.2.2.2.1))&&((decide (p.2.2.2.2.2.2.1=q.2.2.2.2.2.2.1))&&(decide (p.2.2.2.2.2.2.2=q.2.2.2.2.2.2.2)))))))))=decide (p=q):=by
 grind
theorem UQ {k}{a b:List yA}(hk:a.length<k)(hl:a.length<9223372036854775808):vn k a b=some (decide (a=b)):=by
 unfold vn
 by_cases hlen:a.length=b.length
 case neg=>
  have e:decide (((a.length:Nat):Int)=((b.length:Nat):Int))=false:=by grind
  have:a≠b:=by grind
  simp_all
 have e:decide (((a.length:Nat):Int)=((b.length:Nat):Int))=true:=by grind
 have := lg (L := fun n i => IY k n a b i) (N := a.length) (fun i => decide (a.getD i od = b.getD i od)) (.inl ()) (.inr false) (fun n=>by
  show Eu k _ a b a.length=_
  unfold Eu
  simp) (fun n i hi=>by
  show Eu k _ a b i=_
  unfold Eu
  have e8:=eq8 (a.getD i od) (b.getD i od)
  simp only[qH,qJ hi hl]
  simp_all) hk
 rw[this,HU od hlen]
 grind
def fx (q:zF)(o:yA):Bool:=decide (o.2.2.1=q.1)&&(decide (o.1=q.2.1)&&(decide (o.2.1=21)||(decide (o.2.1=22)||decide (o.2.1=18))))
def j6 (q:zF)(o:List yA):Nat:=o.countP (fx q)
theorem zq (q:zF)(a b:List yA):j6 q (a++b)=j6 q a+j6 q b:=List.countP_append
theorem UR {f:zF→Bool}{q:zF}:∀{ps:List zF},qO ps→q∈ps→f q=true→(∀p∈ps,f p=true→p.1=q.1)→ps.countP f=1
 |[],_,h,_,_=>by cases h
 |p::ps,hd,hq,hf,hu=>by
  have hc:=List.pairwise_cons.1 hd
  rw[List.countP_cons]
  rcases List.mem_cons.1 hq with rfl|hq
  ·rw[hf,if_pos rfl]
   have:ps.countP f=0:=by
    rw[List.countP_eq_zero]
    intro r hr yd
    exact hc.1 r hr (hu r (List.mem_cons_of_mem _ hr) yd).symm
   omega
  ·have:f p=false:=by
    cases h:f p with
    |false=>rfl
    |true=>exact absurd (hu p (List.mem_cons_self ..) h) (hc.1 q hq)
   rw[this,UR hc.2 hq hf (fun r hr=>hu r (List.mem_cons_of_mem _ hr))]
   rfl
def vV (kd:Int)(p:zF):yA:=(p.2.1,kd,p.1,0,0,0,0,0)
theorem Ev {kd:Int}(hk:kd=21∨kd=22){q:zF}{ps:List zF}(hd:qO ps):(q∈ps→j6 q (ps.map (vV kd))=1)∧((∀p∈ps,p.1≠q.1)→j6 q (ps.map (vV kd))=0):=by
 unfold j6
 rw[List.countP_map]
 constructor
 ·intro h
  apply UR hd h
  ·show fx q (vV kd q)=true
   unfold fx vV
   rcases hk with rfl|rfl<;>simp
  ·intro p hp hf
   have dV:fx q (vV kd p)=true:=hf
   unfold fx vV at dV
   rw[aV,aP] at dV
   exact dV.1
 ·intro h
  rw[List.countP_eq_zero]
  intro p hp hf
  have dV:fx q (vV kd p)=true:=hf
  unfold fx vV at dV
  rw[aV,aP] at dV
  exact h p hp dV.1
theorem yYt (q:zF):∀(d:List zF),j6 q (vD d)=d.countP (fun p=>fx q (eY p.2.1 p))+d.countP (fun p=>fx q (eY p.2.2.1 p))
 |[]=>rfl
 |p::d=>by
  show j6 q (qs p++vD d)=_
  rw[zq,yYt q d,List.countP_cons,List.countP_cons]
  have e:j6 q (qs p)=(if fx q (eY p.2.1 p)=true then 1 else 0)+(if fx q (eY p.2.2.1 p)=true then 1 else 0):=by
   unfold j6 qs
   rw[List.countP_cons,List.countP_cons,List.countP_nil]
   omega
  rw[e]
  omega
theorem Na {n:Nat}{q:zF}{d:List zF}(hd:qO d)(hm:∀p∈d,yI n p):(q∈d→j6 q (vD d)=1)∧((∀p∈d,p.1≠q.1)→j6 q (vD d)=0):=by
 have h2:∀(l:List zF),qO l→(∀p∈l,yI n p)→(q∈l∨∀p∈l,p.1≠q.1)→l.countP (fun p=>fx q (eY p.2.2.1 p))=0:=by
  intro l qt D8 hq
  rw[List.countP_eq_zero]
  intro p hp hf
  have dV:fx q (eY p.2.2.1 p)=true:=hf
  unfold fx eY at dV
  rw[aV,aV,aP,aP] at dV
  rcases hq with hq|hq
  ·have:=qt.eq_of hp hq dV.1
   subst this
   exact(D8 p hp).ne dV.2.1.symm
  ·exact hq p hp dV.1
 rw[yYt]
 constructor
 ·intro h
  rw[h2 d hd hm (.inl h),UR hd h]
  ·show fx q (eY q.2.1 q)=true
   unfold fx eY
   simp
  ·intro p hp hf
   have dV:fx q (eY p.2.1 p)=true:=hf
   unfold fx eY at dV
   rw[aV,aP] at dV
   exact dV.1
 ·intro h
  rw[h2 d hd hm (.inr h)]
  have:d.countP (fun p=>fx q (eY p.2.1 p))=0:=by
   rw[List.countP_eq_zero]
   intro p hp hf
   have dV:fx q (eY p.2.1 p)=true:=hf
   unfold fx eY at dV
   rw[aV,aP] at dV
   exact h p hp dV.1
  omega
def vp (B:BT)(i:Nat):yA:=((i:Int),23,(B.1.getD i ad).1,0,0,0,0,0)
def ic (B:BT)(n:Nat):List yA:=(List.range n).map (vp B)
theorem yW2 (q:zF)(B:BT)(n:Nat):j6 q (ic B n)=0:=by
 unfold j6 ic
 rw[List.countP_map,List.countP_eq_zero]
 intro i _ hf
 have dV:fx q (vp B i)=true:=hf
 unfold fx vp at dV
 simp at dV
theorem yQp (B:BT)(i:Nat):ic B (i+1)=ic B i++[vp B i]:=by
 unfold ic
 rw[List.range_succ,List.map_append];rfl
theorem yVr {α β:Type}(f:α→β)(l:List α)(i:Nat)(d:α)(h:i<l.length):(l.take (i+1)).map f=(l.take i).map f++[f (l.getD i d)]:=by
 rw[←ft l i d h,List.map_append];rfl
theorem yPt {k:Nat}{B:BT}(hB:B.1.length≤6)(hk:200≤k){m:List zF}(hm:m.length≤100)(t:Int)(pr:AC)(ho:EQ)(ids:AC)(to:Int)(ov:Bool):
  Nb k t B.1 B.2.1 B.2.2.1 B.2.2.2 pr ho m ids to ov=some (t,B.1,B.2.1,B.2.2.1,B.2.2.2,pr,ho,[],ids,to,true,m.map (vV 22)++ic B B.1.length):=by
 unfold Nb
 obtain ⟨s', h1, h2⟩ := yZ (L := fun n i (s : List yA) => Ew k n m m.length i t B.1 B.2.1 B.2.2.1 B.2.2.2 pr ho m ids to ov 0 0 false s) (N := m.length) (fun s => (t, B.1, B.2.1, B.2.2.1, B.2.2.2, pr, ho, m, ids, to, ov, 0, 0, false, s)) (fun i s => s = (m.take i).map (vV 22)) (fun n s _=>by
  show Ey k _ m m.length m.length t B.1 B.2.1 B.2.2.1 B.2.2.2 pr ho m ids to ov 0 0 false s=_
  unfold Ey
  simp only [qG, ab (Nat.lt_irrefl _), ak]) (fun n i s hi hs=>by
  refine⟨_,?_,(yVr (vV 22) m i pd hi).symm⟩
  show Ey k _ m m.length i t B.1 B.2.1 B.2.2.1 B.2.2.2 pr ho m ids to ov 0 0 false s=_
  unfold Ey
  have eI:s.length≤900:=by rw[hs,List.length_map,List.length_take];omega
  have zr:oT k (m.getD i pd).2.1 22 [(m.getD i pd).1]=some (vV 22 (m.getD i pd)):=rfl
  simp only[pd] at zr
  simp only[qH,qG,ao,aa hi,aj,zr,af,vk (show s.length≤1000 by omega),qJ hi (show m.length<9223372036854775808 by omega)]
  rw[hs]) (s:=[]) (show m.length<k by omega) rfl
 have dO:Ew k k m m.length 0 t B.1 B.2.1 B.2.2.1 B.2.2.2 pr ho m ids to ov 0 0 false []=_:=h1
 rw[dO,h2,List.take_length]
 simp only[af]
 obtain ⟨s2, g1, g2⟩ := yZ (L := fun n i (s : List yA) => Ez k n B.1 B.1.length i t B.1 B.2.1 B.2.2.1 B.2.2.2 pr ho m ids to ov 0 0 false s) (N := B.1.length) (fun s => (t, B.1, B.2.1, B.2.2.1, B.2.2.2, pr, ho, m, ids, to, ov, 0, 0, false, s)) (fun i s => s = m.map (vV 22) ++ ic B i) (fun n s _=>by
  show EA k _ B.1 B.1.length B.1.length t B.1 B.2.1 B.2.2.1 B.2.2.2 pr ho m ids to ov 0 0 false s=_
  unfold EA
  simp only [qG, ab (Nat.lt_irrefl _), ak]) (fun n i s hi hs=>by
  refine⟨_,?_,(show m.map (vV 22)++ic B i++[vp B i]=m.map (vV 22)++ic B (i+1) by rw[yQp,List.append_assoc])⟩
  show EA k _ B.1 B.1.length i t B.1 B.2.1 B.2.2.1 B.2.2.2 pr ho m ids to ov 0 0 false s=_
  unfold EA
  have eI:s.length≤900:=by
   rw[hs,List.length_append,List.length_map]
   unfold ic
   rw[List.length_map,List.length_range]
   omega
  have zr:oT k i 23 [(B.1.getD i ad).1]=some (vp B i):=rfl
  have ho3:oT k i 23 [(B.1.getD i (0,0,0)).1]=some (vp B i):=zr
  simp only[qH,qG,ao,aa hi,aj,ho3,af,vk (show s.length≤1000 by omega),qJ hi (show B.1.length<9223372036854775808 by omega)]
  rw[hs]) (s:=m.map (vV 22)) (show B.1.length<k by omega) (by show _=_++[];rw[List.append_nil])
 have sS:Ez k k B.1 B.1.length 0 t B.1 B.2.1 B.2.2.1 B.2.2.2 pr ho m ids to ov 0 0 false (m.map (vV 22))=_:=g1
 rw[sS,g2]
 rfl
def yU (t:Int)(p:zF):Bool:=decide (t>p.2.2.2.2.2.2)
theorem yOk {k:Nat}(hk:200≤k){m:List zF}(hm:m.length≤100)(pa:Int)(as:List (Int×Int))(cu cl pe t:Int)(B:BT)(pr:AC)(ho:EQ)(ids:AC)(to:Int)(ov:Bool):
  EB k k m m.length 0 pa as cu cl pe t B.1 B.2.1 B.2.2.1 B.2.2.2 pr ho m ids to ov 0 0 false [] []=some (pa,as,cu,cl,pe,t,B.1,B.2.1,B.2.2.1,B.2.2.2,pr,ho,m,ids,to,ov,0,0,false,(m.filter (yU t)).map (vV 21),m.filter (fun p=> !yU t p)):=by
 obtain ⟨s', h1, h2, h3⟩ := yZ (L := fun n i (s : List yA × List zF) => EB k n m m.length i pa as cu cl pe t B.1 B.2.1 B.2.2.1 B.2.2.2 pr ho m ids to ov 0 0 false s.1 s.2) (N := m.length) (fun s => (pa, as, cu, cl, pe, t, B.1, B.2.1, B.2.2.1, B.2.2.2, pr, ho, m, ids, to, ov, 0, 0, false, s.1, s.2)) (fun i s => s.1 = ((m.take i).filter (yU t)).map (vV 21) ∧ s.2 = (m.take i).filter (fun p => !yU t p)) (fun n s _=>by
  show EC k _ m m.length m.length pa as cu cl pe t B.1 B.2.1 B.2.2.1 B.2.2.2 pr ho m ids to ov 0 0 false s.1 s.2=_
  unfold EC
  simp only [qG, ab (Nat.lt_irrefl _), ak]) (fun n i s hi hs=>by
  have rU:s.1.length≤900:=by
   rw[hs.1,List.length_map]
   have:=List.length_filter_le (yU t) (m.take i)
   rw[List.length_take] at this
   omega
  have mB:s.2.length≤900:=by
   rw[hs.2]
   have:=List.length_filter_le (fun p=> !yU t p) (m.take i)
   rw[List.length_take] at this
   omega
  show∃s',EC k _ m m.length i pa as cu cl pe t B.1 B.2.1 B.2.2.1 B.2.2.2 pr ho m ids to ov 0 0 false s.1 s.2=_∧_
  unfold EC US
  have zr:oT k (m.getD i pd).2.1 21 [(m.getD i pd).1]=some (vV 21 (m.getD i pd)):=rfl
  simp only[pd] at zr
  simp only[qH,qG,ao,aa hi,aj,zr,af,vk (show s.1.length≤1000 by omega),lX (show s.2.length≤1000 by omega),qJ hi (show m.length<9223372036854775808 by omega)]
  have f1:=zc (yU t) m i pd hi
  have f2:=zc (fun p=> !yU t p) m i pd hi
  cases hb:yU t (m.getD i pd) with
  |true=>
   have bz:decide (t>(m.getD i (0,0,0,0,0,0,0)).2.2.2.2.2.2)=true:=hb
   rw[bz]
   refine⟨(s.1++[vV 21 (m.getD i pd)],s.2),rfl,?_,?_⟩
   ·show s.1++_=_
    rw[f1,hb,hs.1]
    simp
   ·show s.2=_
    rw[f2,hb,hs.2]
    simp
  |false=>
   have bz:decide (t>(m.getD i (0,0,0,0,0,0,0)).2.2.2.2.2.2)=false:=hb
   rw[bz]
   refine⟨(s.1,s.2++[m.getD i pd]),rfl,?_,?_⟩
   ·show s.1=_
    rw[f1,hb,hs.1]
    simp
   ·show s.2++_=_
    rw[f2,hb,hs.2]
    simp) (s:=([],[])) (show m.length<k by omega) ⟨rfl,rfl⟩
 have:=h1.trans (by rw[h2,h3,List.take_length])
 exact this
structure UT (t cl:Int) (B C:BT) (m m':List zF) (ov:Bool) (o:List yA):Prop where
 bk:qU C
 bl:C.1.length=B.1.length
 sub:List.Sublist m' m
 over:ov=decide (t+1=cl)
 none:ov=true→m'=[]
 late:ov=false→∀p∈m',yU (t+1) p=false
 Mi:∀p∈m',j6 p o=0
 gI:∀p∈m,p∉m'→j6 p o=1
 quiet:∀q:zF,(∀p∈m,p.1≠q.1)→j6 q o=0
 room:o.length+2*m'.length≤2*m.length+(if ov=true then 6 else 0)
theorem qO.not_in {l m d:List zF}(hd:qO (d++m)){p}(hp:p∈m):∀q∈d,q.1≠p.1:=fun q hq=>(List.pairwise_append.1 hd).2.2 q hq p hp
structure fy (B C:BT):Prop where
 len:C.1.length=B.1.length
 sum:qK (fun i=>(C.1.getD i ad).1) B.1.length=qK (fun i=>(B.1.getD i ad).1) B.1.length
 cred:∀i,i<B.1.length→(C.1.getD i ad).2.1=(B.1.getD i ad).2.1
 bil:C.2.1=B.2.1
 mul:C.2.2.1=B.2.2.1
 fell:∀i,i<B.1.length→(C.1.getD i ad).1<(B.1.getD i ad).1→0≤(C.1.getD i ad).1+(C.1.getD i ad).2.1
theorem fy.refl B:fy B B:=⟨rfl,rfl,by simp,rfl,rfl,by simp⟩
theorem fy.trans {B C D}(h:fy B C)(g:fy C D):fy B D:=
 ⟨g.len.trans h.len,by have:=g.sum;rw[h.len] at this;exact this.trans h.sum,fun i hi=>(g.cred i (by rw[h.len];exact hi)).trans (h.cred i hi),g.bil.trans h.bil,g.mul.trans h.mul,fun i hi=>by
  have h1:=h.fell i hi
  have h2:=g.fell i (by rw[h.len];exact hi)
  have h3:=g.cred i (by rw[h.len];exact hi)
  omega⟩
theorem yJ5 i:∀{l},(∀p∈l,0≤p.2.2.2.1)→0≤zP (gB i) l+(zP (gN i) l+zP (gR i) l)
 |[],_=>Int.le_refl _
 |p::l,h=>by
  have h1:=yJ5 i fun q hq=>h q (List.mem_cons_of_mem _ hq)
  have h2:=h p (by simp)
  have h3:0≤gB i p+(gN i p+gR i p):=by
   unfold gB gN gR
   omega
  show 0≤gB i p+zP (gB i) l+(gN i p+zP (gN i) l+(gR i p+zP (gR i) l))
  omega
theorem UU {a a' b p p' m l}(x:sL a.length a p l a' p')(hf:uV a b m p l=true)(hl:∀q∈l,yI a.length q){i}(hi:i<a.length):
  (a'.getD i ad).1<(a.getD i ad).1→0≤(a'.getD i ad).1+(a'.getD i ad).2.1:=by
 have h1:=yJ5 i (l:=l) fun q hq=>by have:=(hl q hq).a1;omega
 unfold uV at hf
 rw[aV] at hf
 have h2:=gi.1 hf.2 i hi
 unfold fu at h2
 rw[x.acct i hi]
 grind
theorem yZ7 {B}(h:qU B){l}(hf:u9 B l=true){r}(hp:qh B.1 B.2.1 B.2.2.1 B.2.2.2 l r):fy B (r.1,r.2.1,r.2.2.1,r.2.2.2.1):=by
 have hs:=(Mi h hp).1
 by_cases c:vX B.1.length l
 ·obtain⟨a',p',x,e⟩:=hp.1 c
  cases hi:lW a' B.2.1 B.2.2.1 p' with
  |false=>rw[hi] at e;subst e;exact fy.refl B
  |true=>
   rw[hi] at e;subst e
   exact⟨x.al,hs,fun i bP=>by show(a'.getD i ad).2.1=_;rw[x.acct i bP],rfl,rfl,fun i bP=>UU x hf c.1 bP⟩
 ·rw[hp.2 c];exact fy.refl B
theorem yHy {k}(hk:100<k){B C}(h:qU B){l}(hl:l.length≤80)(hg:gI k B l=some C):fy B C:=by
 obtain⟨r,h1,h3⟩:=Mh hk h hl
 unfold gI at hg
 rw[h1] at hg
 simp only at hg
 cases hc:decide (r.2.2.2.2=0)&&u9 B l with
 |false=>simp_all
 |true=>
  rw[hc] at hg
  simp  at hg
  subst hg
  rw[aV] at hc
  exact yZ7 h hc.2 h3
theorem gk.keptC {k}(hk:100<k){t B C l done m}(h:gk k t B l done C m)(hb:qU B):fy B C:=by
 induction h with
 |stop _=>exact fy.refl _
 |@step B C D l m done p h h' ih=>
  have hg:=(zk h).2
  exact(yHy hk hb (by simp) hg).trans (ih (qo hk hb (by simp) hg).1)
theorem jH.keptC {k}(hk:100<k){t B C l done m}(h:jH k t B l done C m)(hb:qU B):fy B C:=by
 induction h with
 |stop _=>exact fy.refl _
 |@step B C D l m done p q h h' ih=>
  have hg:=(MV h).2.2.2
  exact(yHy hk hb (by simp) hg).trans (ih (qo hk hb (by simp) hg).1)
theorem gk.bk {k}(hk:100<k){t B C l done m}(h:gk k t B l done C m)(hb:qU B):qU C:=by
 induction h with
 |stop _=>exact hb
 |step h h' ih=>exact ih (qo hk hb (by simp) (zk h).2).1
theorem jH.bk {k}(hk:100<k){t B C l done m}(h:jH k t B l done C m)(hb:qU B):qU C:=by
 induction h with
 |stop _=>exact hb
 |step h h' ih=>exact ih (qo hk hb (by simp) (MV h).2.2.2).1
theorem ll.keptC {k}(hk:100<k){t B C l done m}(h:ll k t B l done C m)(hb:qU B):fy B C:=by
 induction h with
 |stop h1 _=>exact h1.keptC hk hb
 |step h1 h2 ne h' ih=>
  have b1:=h1.bk hk hb
  exact((h1.keptC hk hb).trans (h2.keptC hk b1)).trans (ih (h2.bk hk b1))
theorem vH6 {k}(hk:200≤k){B}(hb:qU B){l:List zF}(hl:∀q∈l,yI B.1.length q)(bY:l.length≤64) t {C:BT}{m done:List zF}(hr:zo k B.1 B.2.1 B.2.2.1 B.2.2.2 l t=some (C.1,C.2.1,C.2.2.1,C.2.2.2,m,done)):fy B C:=by
 obtain⟨f,n,h,hn⟩:=UE hb hl bY t
 have uf:=vi l t
 have cm:=vg (yW l t) f
 have M5:=cm.length_le
 obtain⟨r,h1,h3⟩:=Mh (k:=k) (by omega) hb (l:=vA (yW l t) f) (by omega)
 have g1:=UO (k:=k) (by omega) hb hl bY t (by omega) h h1
 unfold Ef at g1
 rw[g1] at hr
 cases c:decide (r.2.2.2.2=0) with
 |false=>
  rw[c] at hr
  simp  at hr
  obtain⟨e1,e2,e3,e4,_⟩:=hr
  have:B=C:=by grind
  rw[←this]
  exact fy.refl B
 |true=>
  have:(r.1,r.2.1,r.2.2.1,r.2.2.2.1)=C:=by grind
  rw[←this]
  refine yZ7 hb ?_ h3
  have hw:=IN (IP (t:=t) hl) (by omega) f
  have hs:=vT2.1 h.final
  unfold u9 uV
  rw[yt.2 hw.1,aa hw.2]
  simp
  rw[gi]
  intro j hj
  have:=hs j hj
  unfold sZ at this
  simp_all
theorem vX6 {C D:BT}{m n d e:List zF}(h:(C.1,C.2.1,C.2.2.1,C.2.2.2,m,d)=(D.1,D.2.1,D.2.2.1,D.2.2.2,n,e)):C=D∧m=n∧d=e:=by
 grind
theorem yQw {k}(hk:200≤k){B}(hb:qU B){l}(hd:qO l)(hl:∀q∈l,yI B.1.length q)(bY:l.length≤64) t all {X:BT}{mx dx:List zF}
  (hr:vj k B.1 B.2.1 B.2.2.1 B.2.2.2 l t all=some (X.1,X.2.1,X.2.2.1,X.2.2.2,mx,dx)):fy B X:=by
 obtain⟨C,m,d,f1,f2,f3,f4,f5⟩:=Ep hk hb hd (by omega) t
 have q1:=f2.keptC (by omega) hb
 have p1:=f2.perm hd
 have l1:=p1.length_eq
 rw[List.length_append] at l1
 unfold vj at hr
 rw[f1] at hr
 simp only[af] at hr
 cases all with
 |false=>
  grind
 |true=>
  have hm:qO m:=List.Pairwise.sublist f5 hd
  have K6:∀q∈m,yI C.1.length q:=fun q hq=>by grind
  obtain⟨D,n,x,g1,g2,g3,g4,g5,g6⟩:=UP hk f3 hm K6 (by omega) t
  have q2:=vH6 hk f3 K6 (by omega) t g1
  have l2:=g5.length_eq
  rw[List.length_append] at l2
  rw[g1] at hr
  simp only[af] at hr
  cases x with
  |nil=>
   grind
  |cons p x=>
   have e1:decide ((((p::x).length:Nat):Int)=0)=false:=by grind
   rw[e1] at hr
   simp only[ak] at hr
   have hn:qO n:=List.Pairwise.sublist g4 hm
   obtain⟨E,o,y,k1,k2,k3,k4,k5⟩:=Ep hk g2 hn (by omega) t
   have q3:=k2.keptC (by omega) g2
   have p3:=k2.perm hn
   have l3:=p3.length_eq
   rw[List.length_append] at l3
   have r1:zO (d.length+(p::x).length) 56=true:=by grind
   have r2:zO ((d++(p::x)).length+y.length) 56=true:=by grind
   rw[k1] at hr
   simp only[af,r1,r2,aj] at hr
   have pJ:some (E.1,E.2.1,E.2.2.1,E.2.2.2,o,d++(p::x)++y)=some (X.1,X.2.1,X.2.2.1,X.2.2.2,mx,dx):=hr
   rw[←(vX6 (Option.some.inj pJ)).1]
   exact(q1.trans q2).trans q3
theorem vRn {k}(hk:200≤k){B}(hb:qU B){m}(hd:qO m)(hm:∀q∈m,yI B.1.length q)(bY:m.length≤64) pa (sa:List (Int×Int)) cu cl pe t (ht:0≤t∧t<1099511627776)(IZ:pe≠0) pr ho ids to:
  ∃(C:BT) (m':List zF) (ov:Bool) (o:List yA),vq k pa sa cu cl pe t B.1 B.2.1 B.2.2.1 B.2.2.2 pr ho m ids to false=some (t+1,C.1,C.2.1,C.2.2.1,C.2.2.2,pr,ho,m',ids,to,ov,o)∧UT t cl B C m m' ov o∧fy B C∧(ov=false→fw k C (vW m' (t+1))=none)∧
   ((ov=true∧m'=[]∧o=m.map (vV 22)++ic B B.1.length∧C=B)∨∃l d n,o=l.map (vV 21)++vD d∧List.Perm (l++n) m∧List.Perm (d++m') n∧ov=false):=by
 have hZ:=hb.n6
 have w:zA (t+1)=t+1:=zR (by omega) (by omega)
 unfold vq I1
 simp only[w,ak,af]
 cases hc:decide (t+1=cl) with
 |true=>
  simp only[aj]
  rw[yPt hZ hk (by omega)]
  simp only[af]
  refine⟨B,[],true,_,rfl,⟨hb,rfl,List.nil_sublist m,hc.symm,fun _=>rfl,(fun e=>by cases e),(fun p hp=>by cases hp),fun p hp _=>?_,fun q hq=>?_,?_⟩,fy.refl B,(fun e=>by cases e),.inl ⟨rfl,rfl,rfl,rfl⟩⟩
  ·rw[zq,(Ev (.inr rfl) hd).1 hp,yW2]
  ·rw[zq,(Ev (.inr rfl) hd).2 hq,yW2]
  ·rw[List.length_append,List.length_map]
   unfold ic
   rw[List.length_map,List.length_range]
   simp
   omega
 |false=>
  simp only[ak]
  rw[yOk hk (by omega)]
  simp only[af]
  have hs:∃x,ED k pa sa cu cl pe (t+1)=some x:=by
   unfold ED
   cases decide (t+1>0) with
   |false=>exact⟨_,rfl⟩
   |true=>
    cases decide (t+1<cl) with
    |false=>exact⟨_,rfl⟩
    |true=>
     have:decide (pe=0)=false:=ab IZ
     rw[this]
     exact⟨_,rfl⟩
  obtain⟨x,hx⟩:=hs
  rw[hx]
  simp only[af]
  have cm:List.Sublist (m.filter (fun p=> !yU (t+1) p)) m:=List.filter_sublist
  have eI:=cm.length_le
  have qt:qO (m.filter (fun p=> !yU (t+1) p)):=List.Pairwise.sublist cm hd
  obtain⟨C,m',d,f1,f2,f3,f4,f5,f6,f7⟩:=vZp hk hb qt (fun q hq=>hm q (cm.subset hq)) (by omega) (t+1) x
  have hlen:=f5.length_eq
  rw[List.length_append] at hlen
  have hSt:ta k (t+1) B.1 B.2.1 B.2.2.1 B.2.2.2 pr ho (m.filter (fun p=> !yU (t+1) p)) ids to false x=some (t+1,C.1,C.2.1,C.2.2.1,C.2.2.2,pr,ho,m',ids,to,false,vD d):=by
   unfold ta
   rw[f1]
   simp only[af]
   rw[yQ2 (by omega) (by omega)]
   rfl
  rw[hSt]
  have abJ:(m.filter (yU (t+1))).length+(m.filter (fun p=> !yU (t+1) p)).length=m.length:=by
   rw[←List.countP_eq_length_filter,←List.countP_eq_length_filter]
   have:=List.length_eq_countP_add_countP (yU (t+1)) (l:=m)
   simp only[Bool.not_eq_true,Bool.decide_eq_false] at this
   exact this.symm
  have B1:=Er d
  have hr:zO (((m.filter (yU (t+1))).map (vV 21)).length+(vD d).length) 64=true:=qT (by rw[List.length_map];omega) (by rw[List.length_map];omega)
  simp only[af,hr,aj]
  have hdd:qO (d++m'):=qt.perm f5
  have tc:qO d:=(List.pairwise_append.1 hdd).1
  have hdm:∀p∈d,p∈m.filter (fun p=> !yU (t+1) p):=by grind
  have mb:∀p∈d,yI B.1.length p:=fun p hp=>hm p (cm.subset (hdm p hp))
  have td:qO (m.filter (yU (t+1))):=hd.filter _
  have vr:∀p∈m,yU (t+1) p=false→∀q∈m.filter (yU (t+1)),q.1≠p.1:=by
   intro p hp hl q hq e
   have h1:=List.mem_filter.1 hq
   have:=hd.eq_of h1.1 hp e
   subst this
   rw[hl] at h1
   exact absurd h1.2 (by simp)
  refine⟨C,m',false,_,rfl,⟨f2,f3,f4.trans cm,hc.symm,(fun e=>by cases e),fun _ p hp=>?_,fun p hp=>?_,fun p hp hn=>?_,fun q hq=>?_,?_⟩,yQw hk hb qt (fun q hq=>hm q (cm.subset hq)) (by omega) (t+1) x f1,(fun _=>f6),.inr ⟨m.filter (yU (t+1)),d,m.filter (fun p=> !yU (t+1) p),rfl,List.filter_append_perm _ _,f5,rfl⟩⟩
  ·have:=(List.mem_filter.1 (f4.subset hp)).2
   simpa using this
  ·have h1:=List.mem_filter.1 (f4.subset hp)
   have hl:yU (t+1) p=false:=by simpa using h1.2
   rw[zq,(Ev (.inl rfl) td).2 (vr p h1.1 hl),(Na tc mb).2 (hdd.not_in (l:=d) hp)]
  ·cases hl:yU (t+1) p with
   |true=>
    have h1:p∈m.filter (yU (t+1)):=List.mem_filter.2 ⟨hp,hl⟩
    have h2:∀q∈d,q.1≠p.1:=by
     grind
    rw[zq,(Ev (.inl rfl) td).1 h1,(Na tc mb).2 h2]
   |false=>
    have h1:p∈m.filter (fun p=> !yU (t+1) p):=List.mem_filter.2 ⟨hp,by rw[hl];rfl⟩
    have h2:p∈d:=by
     rcases List.mem_append.1 (f5.symm.subset h1) with h|h
     ·exact h
     ·exact absurd h hn
    rw[zq,(Ev (.inl rfl) td).2 (vr p hp hl),(Na tc mb).1 h2]
  ·rw[zq,(Ev (.inl rfl) td).2 (by grind),(Na tc mb).2 (fun p hp=>hq p (cm.subset (hdm p hp)))]
  ·rw[List.length_append,List.length_map]
   simp
   omega
end Go.Ab.Gi
