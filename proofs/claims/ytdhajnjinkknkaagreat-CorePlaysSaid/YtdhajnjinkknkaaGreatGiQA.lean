/- Plain proofs, part 0. -/
import Derived.Test.YtdhajnjinkknkaaGreatGiAbC
import Derived.Test.YtdhajnjinkknkaaGreatGiXS
set_option linter.unusedVariables false
set_option linter.unusedSimpArgs false
set_option linter.unusedSectionVars false
set_option maxRecDepth 100000
namespace Go.Ab
theorem ai {p:Prop}[Decidable p](h:p):decide p=true:=decide_eq_true h
theorem aj {p:Prop}[Decidable p](h:¬p):decide p=false:=decide_eq_false h
theorem II {p:Prop}[Decidable p](h:decide p=true):p:=of_decide_eq_true h
theorem jh {p:Prop}[Decidable p](h:decide p=false):¬p:=of_decide_eq_false h
theorem bI {p:Prop}[Decidable p]:(decide p=true)=p:=decide_eq_true_eq
theorem ak {α β:Type}(a:α)(f:α→Option β):(some a).bind f=f a:=rfl
theorem av {α:Type}(a b:α):cond true a b=a:=rfl
theorem ao {α:Type}(a b:α):cond false a b=b:=rfl
theorem aB (n:Nat):(n:Int).toNat=n:=rfl
theorem bN (a b:Bool):((a&&b)=true)=(a=true∧b=true):=Bool.and_eq_true a b
theorem aY:(!true)=false:=rfl
theorem dX:(!false)=true:=rfl
end Go.Ab
namespace Go.Ab
theorem zV {x:Int}(h1:-9223372036854775808≤x)(h2:x<9223372036854775808):zA x=x:=by
 unfold zA IntKind.wrap
 simp only[IntKind.bits,IntKind.signed,Bool.true_and]
 by_cases h:x%2^64≥2^(64-1)
 ·rw[if_pos (by simpa using h)];omega
 ·rw[if_neg (by simpa using h)];omega
theorem qO {i N:Nat}(h:i<N)(hN:N<9223372036854775808):zA ((i:Int)+1)=((i+1:Nat):Int):=by
 rw[zV (by omega) (by omega)];rfl
theorem qG (i n:Nat):zE (i:Int) n=decide (i<n):=by
 unfold zE
 simp
theorem uX {i:Int}{n:Nat}(h0:0≤i)(h1:i<n):zE i n=true:=by
 unfold zE
 simp;omega
theorem yE {n b:Nat}(h:n*b≤70368744177664)(h':n≤70368744177664):zW n b=true:=by
 unfold zW
 rw[Nat.ble_eq_true_of_le h,Nat.ble_eq_true_of_le h'];rfl
theorem zU (i n:Nat):decide ((i:Int)<(n:Int))=decide (i<n):=by simp
theorem ow (i n:Nat):decide ((i:Int)=(n:Int))=decide (i=n):=by
 by_cases h:i=n
 ·subst h;simp
 ·rw[aj h,aj (by omega)]
def qK (p:Nat→Bool):Nat→Nat→Bool
 |0,_=>true
 |c+1,i=>p i&&qK p c (i+1)
theorem qV6 {p:Nat→Bool}:∀{c i:Nat},qK p c i=true↔∀j,i≤j→j<i+c→p j=true
 |0,i=>by simp[qK];intro j h1 h2;omega
 |c+1,i=>by
  simp only[qK,bN,qV6 (c:=c)]
  constructor
  ·rintro⟨h1,h2⟩ j h3 h4
   by_cases e:j=i
   ·subst e;exact h1
   ·exact h2 j (by omega) (by omega)
  ·intro h
   exact⟨h i (Nat.le_refl i) (by omega),fun j h1 h2=>h j (by omega) (by omega)⟩
theorem gG {p:Nat→Bool}{c:Nat}:qK p c 0=true↔∀j,j<c→p j=true:=by
 rw[qV6]
 exact⟨fun h j hj=>h j (Nat.zero_le j) (by omega),fun h j _ hj=>h j (by omega)⟩
theorem P0 {X:Type}{L:Nat→Int→Option X}{N:Nat}(ok:Nat→Bool)(a b:X)(bK:∀n,L (n+1) (N:Int)=some a)
  (aH:∀n i,i<N→L (n+1) (i:Int)=bif ok i then L n ((i+1:Nat):Int) else some b):∀c i n,i+c=N→c<n→L n (i:Int)=some (bif qK ok c i then a else b)
 |0,i,n,h,hn=>by
  obtain⟨n,rfl⟩:∃m,n=m+1:=⟨n-1,by omega⟩
  have:i=N:=by omega
  subst this
  exact bK n
 |c+1,i,n,h,hn=>by
  obtain⟨n,rfl⟩:∃m,n=m+1:=⟨n-1,by omega⟩
  rw[aH n i (by omega)]
  unfold qK
  cases ok i with
  |false=>rfl
  |true=>
   simp only[av,Bool.true_and]
   exact P0 ok a b bK aH c (i+1) n (by omega) (by omega)
theorem j8 {X:Type}{L:Nat→Int→Option X}{N:Nat}(ok:Nat→Bool)(a b:X)(bK:∀n,L (n+1) (N:Int)=some a)
  (aH:∀n i,i<N→L (n+1) (i:Int)=bif ok i then L n ((i+1:Nat):Int) else some b) {n:Nat} (hn:N<n):L n 0=some (bif qK ok N 0 then a else b):=
 P0 ok a b bK aH N 0 n (by omega) hn
theorem yVw {L:Nat→Int→Option (Unit⊕Int)}{N:Nat}(bad:Nat→Bool)(bK:∀n,L (n+1) (N:Int)=some (.inl ()))
  (aH:∀n i,i<N→L (n+1) (i:Int)=bif bad i then some (.inr (i:Int)) else L n ((i+1:Nat):Int)):
  ∀c i n,i+c=N→c<n→(qK (fun j=> !bad j) c i=true∧L n (i:Int)=some (.inl ()))∨∃x:Nat,i≤x∧x<N∧bad x=true∧(∀j,i≤j→j<x→bad j=false)∧qK (fun j=> !bad j) c i=false∧L n (i:Int)=some (.inr (x:Int))
 |0,i,n,h,hn=>by
  obtain⟨n,rfl⟩:∃m,n=m+1:=⟨n-1,by omega⟩
  have:i=N:=by omega
  subst this
  exact .inl ⟨rfl,bK n⟩
 |c+1,i,n,h,hn=>by
  obtain⟨n,rfl⟩:∃m,n=m+1:=⟨n-1,by omega⟩
  rw[aH n i (by omega)]
  unfold qK
  cases hb:bad i with
  |true=>exact .inr ⟨i,Nat.le_refl i,by omega,hb,fun j h1 h2=>absurd h1 (by omega),rfl,rfl⟩
  |false=>
   simp only[ao,dX,Bool.true_and]
   rcases yVw bad bK aH c (i+1) n (by omega) (by omega) with h1|⟨x,x1,x2,x3,x4,x5,x6⟩
   ·exact .inl h1
   ·refine .inr ⟨x,by omega,x2,x3,fun j h1 h2=>?_,x5,x6⟩
    by_cases e:j=i
    ·subst e;exact hb
    ·exact x4 j (by omega) h2
theorem sy {L:Nat→Int→Option (Unit⊕Int)}{N:Nat}(bad:Nat→Bool)(bK:∀n,L (n+1) (N:Int)=some (.inl ()))
  (aH:∀n i,i<N→L (n+1) (i:Int)=bif bad i then some (.inr (i:Int)) else L n ((i+1:Nat):Int)) {n:Nat} (hn:N<n):
  ∃x:Unit⊕Int,L n 0=some x∧decide ((match x with|.inl _=>(-1:Int)|.inr y=>y)≥0)= !qK (fun j=> !bad j) N 0:=by
 rcases yVw bad bK aH N 0 n (by omega) hn with⟨h1,h2⟩|⟨x,_,_,_,_,h5,h6⟩
 ·exact⟨_,h2,by rw[h1];rfl⟩
 ·exact⟨_,h6,by rw[h5];simp⟩
theorem yWb {S X:Type}{L:Nat→Int→S→Option X}{N:Nat}(e:S→X)(inv:Nat→S→Prop)(bK:∀n s,inv N s→L (n+1) (N:Int) s=some (e s))
  (aH:∀n i s,i<N→inv i s→∃s',L (n+1) (i:Int) s=L n ((i+1:Nat):Int) s'∧inv (i+1) s'):
  ∀c i n s,i+c=N→c<n→inv i s→∃s',L n (i:Int) s=some (e s')∧inv N s'
 |0,i,n,s,h,hn,hs=>by
  obtain⟨n,rfl⟩:∃m,n=m+1:=⟨n-1,by omega⟩
  have:i=N:=by omega
  subst this
  exact⟨s,bK n s hs,hs⟩
 |c+1,i,n,s,h,hn,hs=>by
  obtain⟨n,rfl⟩:∃m,n=m+1:=⟨n-1,by omega⟩
  obtain⟨s',h1,h2⟩:=aH n i s (by omega) hs
  rw[h1]
  exact yWb e inv bK aH c (i+1) n s' (by omega) (by omega) h2
theorem vF {S X:Type}{L:Nat→Int→S→Option X}{N:Nat}(e:S→X)(inv:Nat→S→Prop)(bK:∀n s,inv N s→L (n+1) (N:Int) s=some (e s))
  (aH:∀n i s,i<N→inv i s→∃s',L (n+1) (i:Int) s=L n ((i+1:Nat):Int) s'∧inv (i+1) s') {n:Nat} {s:S} (hn:N<n) (hs:inv 0 s):
  ∃s',L n 0 s=some (e s')∧inv N s':=yWb e inv bK aH N 0 n s (by omega) hn hs
def zR {α:Type}(g:α→Int):List α→Int
 |[]=>0
 |p::l=>g p+zR g l
theorem j9 {α:Type}(g:α→Int):∀(l m:List α),zR g (l++m)=zR g l+zR g m
 |[],m=>by simp[zR]
 |p::l,m=>by
  show g p+zR g (l++m)=g p+zR g l+zR g m
  rw[j9 g l m];omega
theorem yx {α:Type}{g:α→Int}{A:Int}:∀{l:List α},(∀p∈l,-A≤g p∧g p≤A)→-(l.length*A)≤zR g l∧zR g l≤l.length*A
 |[],_=>by simp[zR]
 |p::l,h=>by
  have h1:=h p (List.mem_cons_self ..)
  have h2:=yx (l:=l) fun q hq=>h q (List.mem_cons_of_mem _ hq)
  have e:((p::l).length:Int)*A=(l.length:Int)*A+A:=by
   rw[List.length_cons,Int.natCast_add,Int.add_mul];simp
  rw[e]
  show-_≤g p+zR g l∧g p+zR g l≤_
  omega
theorem sA {α:Type}{g:α→Int}:∀{l:List α},(∀p∈l,0≤g p)→0≤zR g l
 |[],_=>by simp[zR]
 |p::l,h=>by
  have h1:=h p (List.mem_cons_self ..)
  have h2:=sA (l:=l) fun q hq=>h q (List.mem_cons_of_mem _ hq)
  show 0≤g p+zR g l
  omega
theorem yUi {α:Type}(g h:α→Int):∀(l:List α),zR (fun p=>g p+h p) l=zR g l+zR h l
 |[]=>rfl
 |p::l=>by
  show g p+h p+zR _ l=g p+zR g l+(h p+zR h l)
  rw[yUi g h l];omega
theorem P1 {α:Type}(g h:α→Int):∀(l:List α),zR (fun p=>g p-h p) l=zR g l-zR h l
 |[]=>rfl
 |p::l=>by
  show g p-h p+zR _ l=g p+zR g l-(h p+zR h l)
  rw[P1 g h l];omega
theorem IJ {α:Type}{g h:α→Int}:∀{l:List α},(∀p∈l,g p=h p)→zR g l=zR h l
 |[],_=>rfl
 |p::l,e=>by
  show g p+zR g l=h p+zR h l
  rw[e p (List.mem_cons_self ..),IJ fun q hq=>e q (List.mem_cons_of_mem _ hq)]
def qM (g:Nat→Int):Nat→Int
 |0=>0
 |n+1=>qM g n+g n
theorem yy (g h:Nat→Int):∀n,qM (fun j=>g j+h j) n=qM g n+qM h n
 |0=>rfl
 |n+1=>by
  show qM _ n+(g n+h n)=qM g n+g n+(qM h n+h n)
  rw[yy g h n];omega
theorem lE {g h:Nat→Int}:∀{n:Nat},(∀j,j<n→g j=h j)→qM g n=qM h n
 |0,_=>rfl
 |n+1,e=>by
  show qM g n+g n=qM h n+h n
  rw[lE fun j hj=>e j (by omega),e n (Nat.lt_succ_self n)]
theorem uY (c:Int)(t:Nat):∀n,qM (fun j=>if j=t then c else 0) n=if t<n then c else 0
 |0=>rfl
 |n+1=>by
  show qM _ n+(if n=t then c else 0)=_
  rw[uY c t n]
  by_cases h:t<n
  ·rw[if_pos h,if_neg (by omega),if_pos (by omega)];omega
  ·by_cases h':n=t
   ·rw[if_neg h,if_pos h',if_pos (by omega)];omega
   ·rw[if_neg h,if_neg h',if_neg (by omega)];omega
theorem P2:∀n,qM (fun _=>0) n=0
 |0=>rfl
 |n+1=>by show qM _ n+0=0;rw[P2 n];rfl
theorem sB {g:Nat→Int}{A:Int}(h:∀j,-A≤g j∧g j≤A):∀n:Nat,-(n*A)≤qM g n∧qM g n≤n*A
 |0=>by simp[qM]
 |n+1=>by
  have h1:=h n
  have h2:=sB h n
  have e:((n+1:Nat):Int)*A=(n:Int)*A+A:=by
   rw[Int.natCast_add,Int.add_mul];simp
  rw[e]
  show-_≤qM g n+g n∧qM g n+g n≤_
  omega
theorem IK {α:Type}(g:Nat→α→Int)(n:Nat):∀l:List α,qM (fun j=>zR (g j) l) n=zR (fun p=>qM (fun j=>g j p) n) l
 |[]=>P2 n
 |p::l=>by
  show qM (fun j=>g j p+zR (g j) l) n=qM (fun j=>g j p) n+zR _ l
  rw[yy,IK g n l]
theorem wS {α:Type}{l:List α}{i:Nat}{d:α}(h:i<l.length):l.getD i d∈l:=by
 rw[List.getD_eq_getElem?_getD,List.getElem?_eq_getElem h]
 exact List.getElem_mem h
theorem ie {α:Type}(l:List α)(i:Nat)(d:α)(h:i<l.length):l.take i++[l.getD i d]=l.take (i+1):=by
 rw[List.take_add_one,List.getD_eq_getElem?_getD,List.getElem?_eq_getElem h]
 rfl
theorem wL {α:Type}(l:List α)(i j:Nat)(a d:α):(l.set i a).getD j d=if i=j∧i<l.length then a else l.getD j d:=by
 rw[List.getD_eq_getElem?_getD,List.getD_eq_getElem?_getD,List.getElem?_set]
 by_cases h:i=j
 ·subst h
  by_cases h':i<l.length<;>simp[h']
 ·simp[h]
theorem yz {α:Type}{l m:List α}(d:α)(hl:l.length=m.length)(h:∀i,i<l.length→l.getD i d=m.getD i d):l=m:=by
 apply List.ext_getElem hl
 intro i h1 h2
 have:=h i h1
 rwa [List.getD_eq_getElem?_getD,List.getD_eq_getElem?_getD,List.getElem?_eq_getElem h1,List.getElem?_eq_getElem h2] at this
theorem yXo (m:Nat)(hm:m≤62)(x:Int):yK .i64 x (2^m-1)=x%2^m:=by
 unfold yK oU
 have hp:(2:Int)^m=((2^m:Nat):Int):=by norm_cast
 have hle:2^m≤2^62:=Nat.pow_le_pow_right (by omega) hm
 have nj:0<2^m:=Nat.two_pow_pos m
 have h62:(2:Nat)^62=4611686018427387904:=rfl
 have e1:(BitVec.ofInt IntKind.i64.bits x&&&BitVec.ofInt IntKind.i64.bits (2^m-1)).toNat=(x%2^m).toNat:=by
  rw[BitVec.toNat_and,BitVec.toNat_ofInt,BitVec.toNat_ofInt]
  have e2:((2:Int)^m-1)%((2^IntKind.i64.bits:Nat):Int)=((2^m-1:Nat):Int):=by
   rw[hp]
   have:((2^m:Nat):Int)-1=((2^m-1:Nat):Int):=by omega
   rw[this]
   apply Int.emod_eq_of_lt (by omega)
   show((2^m-1:Nat):Int)<((2^64:Nat):Int)
   have:(2:Nat)^64=18446744073709551616:=rfl
   omega
  rw[e2,aB,Nat.and_two_pow_sub_one_eq_mod]
  have hx:0≤x%((2^IntKind.i64.bits:Nat):Int):=Int.emod_nonneg _ (by show((2^64:Nat):Int)≠0;decide)
  have e3:x%2^m=(x%((2^IntKind.i64.bits:Nat):Int))%((2^m:Nat):Int):=by
   rw[hp,Int.emod_emod_of_dvd]
   show((2^m:Nat):Int)∣((2^64:Nat):Int)
   exact Int.natCast_dvd_natCast.2 (Nat.pow_dvd_pow 2 (by omega))
  rw[e3]
  generalize x%((2^IntKind.i64.bits:Nat):Int)=y at hx
  obtain⟨y,rfl⟩:=Int.eq_ofNat_of_zero_le hx
  rw[aB,←Int.natCast_emod,aB]
 rw[e1]
 have h0:0≤x%2^m:=Int.emod_nonneg _ (by omega)
 have h1:x%2^m<2^m:=Int.emod_lt_of_pos _ (by omega)
 rw[Int.toNat_of_nonneg h0]
 exact zV (by omega) (by omega)
end Go.Ab
namespace Go.Ab.Gi
open Go.Ab
abbrev qN:=Int×Int×Int
abbrev zB:=Int×Int×Int×Int×Int×Int×Int
def jJ (a:qN):Bool:=decide (a.1>-4611686018427387904)&&(decide (a.1<4611686018427387904)&&(decide (a.2.1≥0)&&(decide (a.2.1≤2305843009213693952)&&(decide (a.2.2≥0)&&decide (a.2.2≤2305843009213693952)))))
def wE (n:Int):Bool:=decide (n≥-1)&&decide (n≤2305843009213693952)
def gf (n:Int):Bool:=decide (n>-72057594037927936)&&decide (n<72057594037927936)
def cell (m:List (List Int))(i j:Nat):Int:=(m.getD i []).getD j 0
def kL (n:Nat)(m:List (List Int)):Bool:=decide (m.length=n)&&qK (fun i=>decide ((m.getD i []).length=n)) n 0
def nk (p:Int→Bool)(n:Nat)(m:List (List Int)):Bool:=qK (fun i=>qK (fun j=>p (cell m i j)) n 0) n 0
def pJ (n:Nat)(m:List (List Int)):Bool:=qK (fun i=>qK (fun j=>decide (cell m i j=zA (0-cell m j i))) n 0) n 0
def kM (sC:List qN)(bil:List (List Int))(mul:List Int)(pos:List (List Int)):Bool:=
 let n:=sC.length
 decide (1≤n)&&(decide (n≤6)&&(kL n bil&&(kL n pos&&(decide (mul.length=n)&&(qK (fun i=>jJ (sC.getD i (0,0,0))) n 0&&(qK (fun i=>wE (mul.getD i 0)) n 0&&(nk wE n bil&&(nk gf n pos&&pJ n pos))))))))
theorem P3 (k:Nat)(b c r:Int):Ey k b c r=some (jJ (b,c,r)):=by
 unfold Ey jJ
 cases decide (b>-4611686018427387904)<;>cases decide (b<4611686018427387904)<;>cases decide (c≥0)<;>cases decide (c≤2305843009213693952)<;>cases decide (r≥0)<;>rfl
theorem qWm (k:Nat)(b c r:Int):IL k b c r=some (jJ (b,c,r)):=P3 k b c r
theorem P4 (k:Nat)(n:Int):Ez k n=some (wE n):=by
 unfold Ez wE
 cases decide (n≥-1)<;>rfl
theorem vHu (k:Nat)(n:Int):P5 k n=some (wE n):=P4 k n
theorem vRr (k:Nat)(n:Int):IM k n=some (gf n):=by
 unfold IM gf
 cases decide (n>-72057594037927936)<;>rfl
theorem yOl {k:Nat}{n:Nat}(hk:n<k)(hn:n≤1000)(m:List (List Int)):EA k m n=some (kL n m):=by
 unfold EA kL
 simp only[ow]
 by_cases h:m.length=n
 ·have := j8 (L := fun c i => EB k c m n i) (N := n) (fun i => decide ((m.getD i []).length = n)) (.inl ()) (.inr false) (fun c=>by
    show y8 k _ m n n=_
    unfold y8
    simp only [zU, aj (Nat.lt_irrefl n), ao]) (fun c i hi=>by
    show y8 k _ m n i=_
    unfold y8
    simp only[qG,qO hi (by omega),zU,ow,aB,h,ai hi,av]
    cases decide ((m.getD i []).length=n)<;>rfl) hk
  simp only[h,decide_true,aY,ao,Bool.true_and]
  rw[this]
  generalize qK _ _ _=r
  cases r<;>rfl
 ·simp only[aj h,dX,av,Bool.false_and]
theorem yXu {k:Nat}{N i:Nat}(hk:N<k)(hN:N≤1000)(hi:i<N){a:List qN}{b p:List (List Int)}{m:List Int}(hb:b.length=N)(hp:p.length=N)(P6:∀j,j<N→(b.getD j []).length=N)(lF:∀j,j<N→(p.getD j []).length=N):
  y9 k k N i 0 a b m p=some (bif qK (fun j=>wE (cell b i j)&&(gf (cell p i j)&&decide (cell p i j=zA (0-cell p j i)))) N 0 then .inl ((N:Int),(i:Int),a,b,m,p) else .inr false):=by
 refine j8 (L:=fun c j=>y9 k c N i j a b m p) (N:=N) _ (.inl ((N:Int),(i:Int),a,b,m,p)) (.inr false) (fun c=>?_) (fun c j hj=>?_) hk
 ·show za k _ N i N a b m p=_
  unfold za
  simp only[zU,aj (Nat.lt_irrefl N),ao]
 ·show za k _ N i j a b m p=_
  unfold za
  simp only[qG,qO hj (by omega),zU,aB,hb,hp,P6 i hi,lF i hi,lF j hj,ai hj,ai hi,av,P4,ak,gf]
  show(bif !wE (cell b i j) then _ else bif decide (cell p i j≤_) then _ else bif decide (cell p i j≥_) then _ else bif !decide (cell p i j=_) then _ else _)=_
  have e1:decide (cell p i j≤-72057594037927936)= !decide (cell p i j>-72057594037927936):=by
   by_cases h:cell p i j≤-72057594037927936
   ·rw[ai h,aj (by omega)];rfl
   ·rw[aj h,ai (by omega)];rfl
  have e2:decide (cell p i j≥72057594037927936)= !decide (cell p i j<72057594037927936):=by
   by_cases h:cell p i j≥72057594037927936
   ·rw[ai h,aj (by omega)];rfl
   ·rw[aj h,ai (by omega)];rfl
  rw[e1,e2]
  show(bif !wE (cell b i j) then _ else bif _ then _ else bif _ then _ else bif !decide (cell p i j=zA (0-cell p j i)) then _ else _)=_
  cases wE (cell b i j)<;>cases decide (cell p i j>-72057594037927936)<;>cases decide (cell p i j<72057594037927936)<;>cases decide (cell p i j=zA (0-cell p j i))<;>rfl
theorem yXw {k:Nat}{N:Nat}(hk:N<k)(hN:N≤1000){a:List qN}{b p:List (List Int)}{m:List Int}(ha:a.length=N)(hm:m.length=N)(hb:b.length=N)(hp:p.length=N)(P6:∀j,j<N→(b.getD j []).length=N)(lF:∀j,j<N→(p.getD j []).length=N):
  zb k k N 0 a b m p=some (bif qK (fun i=>jJ (a.getD i (0,0,0))&&(wE (m.getD i 0)&&qK (fun j=>wE (cell b i j)&&(gf (cell p i j)&&decide (cell p i j=zA (0-cell p j i)))) N 0)) N 0 then .inl () else .inr false):=by
 refine j8 (L:=fun c j=>zb k c N j a b m p) (N:=N) _ (.inl ()) (.inr false) (fun c=>?_) (fun c i hi=>?_) hk
 ·show zc k _ N N a b m p=_
  unfold zc
  simp only[zU,aj (Nat.lt_irrefl N),ao]
 ·show zc k _ N i a b m p=_
  unfold zc
  simp only[qG,zU,aB,ha,hm,ai hi,av,P4,P3,ak,yXu hk hN hi hb hp P6 lF]
  generalize qK _ N 0=r
  show(bif !jJ (a.getD i (0,0,0)) then _ else _)=_
  cases jJ (a.getD i (0,0,0))<;>cases wE (m.getD i 0)<;>cases r<;>simp only[aY,dX,av,ao,Bool.and_true,Bool.and_false,Bool.true_and,Bool.false_and,qO hi (show N<9223372036854775808 by omega)]
theorem vQp {k:Nat}(hk:10<k)(a:List qN)(b:List (List Int))(m:List Int)(p:List (List Int)):IN k a b m p=some (kM a b m p):=by
 unfold IN
 have l1:decide ((a.length:Int)<1)= !decide (1≤a.length):=by
  by_cases h:1≤a.length
  ·rw[ai h,aj (by omega)];rfl
  ·rw[aj h,ai (by omega)];rfl
 have l2:decide ((a.length:Int)>6)= !decide (a.length≤6):=by
  by_cases h:a.length≤6
  ·rw[ai h,aj (by omega)];rfl
  ·rw[aj h,ai (by omega)];rfl
 rw[l1,l2]
 unfold kM
 dsimp only
 by_cases h1:1≤a.length
 case neg=>rw[aj h1];rfl
 by_cases h2:a.length≤6
 case neg=>rw[ai h1,aj h2];rfl
 rw[ai h1,ai h2]
 simp only[aY,ao,Bool.true_and]
 rw[yOl (by omega) (by omega),yOl (by omega) (by omega)]
 simp only[ak,ow]
 cases hb:kL a.length b with
 |false=>rfl
 |true=>
  cases hp:kL a.length p with
  |false=>rfl
  |true=>
   by_cases hm:m.length=a.length
   case neg=>simp only[aj hm];rfl
   simp only[kL,bN,bI,gG] at hb hp
   simp only[hm,decide_true,aY,ao,Bool.true_and]
   rw[yXw (by omega) (by omega) rfl hm hb.1 hp.1 hb.2 hp.2]
   have e:(qK (fun i=>jJ (a.getD i (0,0,0))) a.length 0&&(qK (fun i=>wE (m.getD i 0)) a.length 0&&(nk wE a.length b&&(nk gf a.length p&&pJ a.length p))))=
     qK (fun i=>jJ (a.getD i (0,0,0))&&(wE (m.getD i 0)&&qK (fun j=>wE (cell b i j)&&(gf (cell p i j)&&decide (cell p i j=zA (0-cell p j i)))) a.length 0)) a.length 0:=by
    rw[Bool.eq_iff_iff]
    simp only[nk,pJ,bN,gG]
    constructor
    ·rintro⟨h1,h2,h3,h4,h5⟩ i hi
     exact⟨h1 i hi,h2 i hi,fun j hj=>⟨h3 i hi j hj,h4 i hi j hj,h5 i hi j hj⟩⟩
    ·intro h
     exact⟨fun i hi=>(h i hi).1,fun i hi=>(h i hi).2.1,fun i hi j hj=>((h i hi).2.2 j hj).1,fun i hi j hj=>((h i hi).2.2 j hj).2.1,fun i hi j hj=>((h i hi).2.2 j hj).2.2⟩
   rw[e]
   generalize qK _ _ _=r
   cases r<;>rfl
theorem vFw {k:Nat}{a:List qN}(hk:a.length<k)(hl:a.length<9223372036854775808):IP k a=some (!qK (fun i=>jJ (a.getD i (0,0,0))) a.length 0):=by
 obtain ⟨x, h1, h2⟩ := sy (L := fun c i => EC k c a a.length i) (N := a.length) (fun i => !jJ (a.getD i (0, 0, 0))) (fun c=>by
  show zd k _ a a.length a.length=_
  unfold zd
  simp only [zU, aj (Nat.lt_irrefl _), ao]) (fun c i hi=>by
  show zd k _ a a.length i=_
  unfold zd P7
  simp only[qG,qO hi hl,zU,aB,ai hi,av,qWm,ak]) hk
 unfold IP P8
 rw[h1]
 simp only[Bool.not_not] at h2
 rw[←h2]
 cases x<;>rfl
theorem vOj {k:Nat}{a:List Int}(hk:a.length<k)(hl:a.length<9223372036854775808):IQ k a=some (!qK (fun i=>wE (a.getD i 0)) a.length 0):=by
 obtain ⟨x, h1, h2⟩ := sy (L := fun c i => ED k c a a.length i) (N := a.length) (fun i => !wE (a.getD i 0)) (fun c=>by
  show ze k _ a a.length a.length=_
  unfold ze
  simp only [zU, aj (Nat.lt_irrefl _), ao]) (fun c i hi=>by
  show ze k _ a a.length i=_
  unfold ze P9
  simp only[qG,qO hi hl,zU,aB,ai hi,av,vHu,ak]) hk
 unfold IQ Qa
 rw[h1]
 simp only[Bool.not_not] at h2
 rw[←h2]
 cases x<;>rfl
theorem vOd {k:Nat}{a:List Int}(hk:a.length<k)(hl:a.length<9223372036854775808):IS k a=some (!qK (fun i=>gf (a.getD i 0)) a.length 0):=by
 obtain ⟨x, h1, h2⟩ := sy (L := fun c i => EE k c a a.length i) (N := a.length) (fun i => !gf (a.getD i 0)) (fun c=>by
  show zg k _ a a.length a.length=_
  unfold zg
  simp only [zU, aj (Nat.lt_irrefl _), ao]) (fun c i hi=>by
  show zg k _ a a.length i=_
  unfold zg Qb
  simp only[qG,qO hi hl,zU,aB,ai hi,av,vRr,ak]) hk
 unfold IS Qc
 rw[h1]
 simp only[Bool.not_not] at h2
 rw[←h2]
 cases x<;>rfl
theorem yLp {k n:Nat}(hk:n<k)(hn:n≤1000)(a:List Int):EF k a n=some (decide (a.length=n)&&qK (fun i=>wE (a.getD i 0)) n 0):=by
 unfold EF
 simp only[ow]
 by_cases h:a.length=n
 ·rw[vOj (by omega) (by omega)]
  simp only[h,decide_true,av,ak,Bool.not_not,Bool.true_and]
 ·simp only[aj h,ao,Bool.false_and]
theorem vBn {k n:Nat}(hk:n<k)(hn:n≤1000)(a:List Int):IT k a n=some (decide (a.length=n)&&qK (fun i=>gf (a.getD i 0)) n 0):=by
 unfold IT
 simp only[ow]
 by_cases h:a.length=n
 ·rw[vOd (by omega) (by omega)]
  simp only[h,decide_true,av,ak,Bool.not_not,Bool.true_and]
 ·simp only[aj h,ao,Bool.false_and]
theorem vG8 {k n:Nat}(hk:n<k)(hn:n≤1000)(m:List (List Int)):IU k m n=some (decide (m.length=n)&&qK (fun i=>decide ((m.getD i []).length=n)&&qK (fun j=>wE (cell m i j)) n 0) n 0):=by
 unfold IU
 simp only[ow]
 by_cases h:m.length=n
 ·have := j8 (L := fun c i => EG k c n m n i) (N := n) (fun i => decide ((m.getD i []).length = n) && qK (fun j => wE (cell m i j)) n 0) (.inl ()) (.inr false) (fun c=>by
    show zh k _ n m n n=_
    unfold zh
    simp only [zU, aj (Nat.lt_irrefl n), ao]) (fun c i hi=>by
    show zh k _ n m n i=_
    unfold zh
    simp only[qG,qO hi (by omega),zU,aB,h,ai hi,av,yLp hk hn,ak]
    show(bif !(decide ((m.getD i []).length=n)&&qK (fun j=>wE (cell m i j)) n 0) then _ else _)=_
    generalize (decide ((m.getD i []).length=n)&&qK (fun j=>wE (cell m i j)) n 0)=r
    cases r<;>rfl) hk
  simp only[h,decide_true,aY,ao,Bool.true_and]
  rw[this]
  generalize qK _ _ _=r
  cases r<;>rfl
 ·simp only[aj h,dX,av,Bool.false_and]
theorem vAv {k n:Nat}(hk:n<k)(hn:n≤1000)(m:List (List Int)):IV k m n=some (decide (m.length=n)&&qK (fun i=>decide ((m.getD i []).length=n)&&qK (fun j=>gf (cell m i j)) n 0) n 0):=by
 unfold IV
 simp only[ow]
 by_cases h:m.length=n
 ·have := j8 (L := fun c i => EH k c n m n i) (N := n) (fun i => decide ((m.getD i []).length = n) && qK (fun j => gf (cell m i j)) n 0) (.inl ()) (.inr false) (fun c=>by
    show zi k _ n m n n=_
    unfold zi
    simp only [zU, aj (Nat.lt_irrefl n), ao]) (fun c i hi=>by
    show zi k _ n m n i=_
    unfold zi
    simp only[qG,qO hi (by omega),zU,aB,h,ai hi,av,vBn hk hn,ak]
    show(bif !(decide ((m.getD i []).length=n)&&qK (fun j=>gf (cell m i j)) n 0) then _ else _)=_
    generalize (decide ((m.getD i []).length=n)&&qK (fun j=>gf (cell m i j)) n 0)=r
    cases r<;>rfl) hk
  simp only[h,decide_true,aY,ao,Bool.true_and]
  rw[this]
  generalize qK _ _ _=r
  cases r<;>rfl
 ·simp only[aj h,dX,av,Bool.false_and]
theorem vRn {k N i:Nat}(hk:N<k)(hN:N≤1000)(hi:i<N){p q:List (List Int)}{u:Int}(hp:p.length=N)(lF:∀j,j<N→(p.getD j []).length=N):
  zj k k p i q u i (p.getD i []) N 0=some (bif qK (fun j=>decide (cell p j i=zA (0-cell p i j))) N 0 then .inl (p,q,u,(i:Int)) else .inr false):=by
 refine j8 (L:=fun c j=>zj k c p i q u i (p.getD i []) N j) (N:=N) _ (.inl (p,q,u,(i:Int))) (.inr false) (fun c=>?_) (fun c j hj=>?_) hk
 ·show zk k _ p i q u i (p.getD i []) N N=_
  unfold zk
  simp only[zU,aj (Nat.lt_irrefl N),ao]
 ·show zk k _ p i q u i (p.getD i []) N j=_
  unfold zk
  simp only[qG,qO hj (show N<9223372036854775808 by omega),zU,aB,hp,lF i hi,lF j hj,ai hj,ai hi,av]
  show(bif !decide (cell p j i=zA (0-cell p i j)) then _ else _)=_
  generalize decide (cell p j i=zA (0-cell p i j))=r
  cases r<;>rfl
theorem vIa {k N:Nat}(hk:N<k)(hN:N≤1000){p:List (List Int)}(hp:p.length=N)(lF:∀j,j<N→(p.getD j []).length=N):
  IW k p=some (pJ N p):=by
 have := j8 (L := fun c i => EI k c p p N i) (N := N) (fun i => qK (fun j => decide (cell p j i = zA (0 - cell p i j))) N 0) (.inl ()) (.inr false) (fun c=>by
   show zl k _ p p N N=_
   unfold zl
   simp only [zU, aj (Nat.lt_irrefl N), ao]) (fun c i hi=>by
   show zl k _ p p N i=_
   unfold zl
   simp only[qG,zU,aB,hp,lF i hi,ai hi,av,vRn hk hN hi hp lF,ak]
   generalize qK _ N 0=r
   cases r<;>simp only[av,ao,qO hi (show N<9223372036854775808 by omega)]) hk
 unfold IW
 simp only[hp]
 rw[this]
 have e:qK (fun i=>qK (fun j=>decide (cell p j i=zA (0-cell p i j))) N 0) N 0=pJ N p:=by
  rw[Bool.eq_iff_iff]
  simp only[pJ,gG]
  exact⟨fun h i hi j hj=>h j hj i hi,fun h i hi j hj=>h j hj i hi⟩
 rw[e]
 generalize pJ N p=r
 cases r<;>rfl
theorem qV0 {k:Nat}(hk:10<k)(a:List qN)(b:List (List Int))(m:List Int)(p:List (List Int)):uZ k a b m p=some (kM a b m p):=by
 unfold uZ
 have l1:decide ((a.length:Int)<1)= !decide (1≤a.length):=by
  by_cases h:1≤a.length
  ·rw[ai h,aj (by omega)];rfl
  ·rw[aj h,ai (by omega)];rfl
 have l2:decide ((a.length:Int)>6)= !decide (a.length≤6):=by
  by_cases h:a.length≤6
  ·rw[ai h,aj (by omega)];rfl
  ·rw[aj h,ai (by omega)];rfl
 rw[l1,l2]
 unfold kM
 dsimp only
 by_cases h1:1≤a.length
 case neg=>rw[aj h1];rfl
 by_cases h2:a.length≤6
 case neg=>rw[ai h1,aj h2];rfl
 rw[ai h1,ai h2]
 simp only[aY,ao,Bool.true_and]
 rw[vFw (by omega) (by omega),vG8 (by omega) (by omega),yLp (by omega) (by omega),vAv (by omega) (by omega)]
 simp only[ak]
 generalize hA:qK (fun i=>jJ (a.getD i (0,0,0))) a.length 0=A
 have sq:∀(q:Int→Bool) (m:List (List Int)),(decide (m.length=a.length)&&qK (fun i=>decide ((m.getD i []).length=a.length)&&qK (fun j=>q (cell m i j)) a.length 0) a.length 0)=(kL a.length m&&nk q a.length m):=by
  intro q m
  rw[Bool.eq_iff_iff]
  simp only[kL,nk,bN,bI,gG]
  exact⟨fun h=>⟨⟨h.1,fun i hi=>(h.2 i hi).1⟩,fun i hi=>(h.2 i hi).2⟩,fun h=>⟨h.1.1,fun i hi=>⟨h.1.2 i hi,h.2 i hi⟩⟩⟩
 rw[sq wE b,sq gf p]
 cases hp:kL a.length p with
 |false=>
  cases A<;>cases kL a.length b<;>cases nk wE a.length b<;>cases decide (m.length=a.length)<;>cases qK (fun i=>wE (m.getD i 0)) a.length 0<;>rfl
 |true=>
  simp only[kL,bN,bI,gG] at hp
  rw[vIa (N:=a.length) (by omega) (by omega) hp.1 hp.2]
  cases A<;>cases kL a.length b<;>cases nk wE a.length b<;>cases decide (m.length=a.length)<;>cases qK (fun i=>wE (m.getD i 0)) a.length 0<;>cases nk gf a.length p<;>cases pJ a.length p<;>rfl
theorem yI6 {k N:Nat}{s:List (List Int)}(hN:s.length=N)(hl:N≤1000)(hr:∀i,i<N→(s.getD i []).length≤1000):∀(c i n:Nat),i+c=N→c<n→EJ k n s i (s.take i)=some s
 |0,i,n,h,hn=>by
  obtain⟨n,rfl⟩:∃m,n=m+1:=⟨n-1,by omega⟩
  show zm k _ s i (s.take i)=_
  unfold zm
  have:¬i<s.length:=by omega
  simp only[zU,aj this,ao]
  rw[List.take_of_length_le (by omega)]
 |c+1,i,n,h,hn=>by
  obtain⟨n,rfl⟩:∃m,n=m+1:=⟨n-1,by omega⟩
  show zm k _ s i (s.take i)=_
  unfold zm
  have hi:i<s.length:=by omega
  have h1:=hr i (by omega)
  have e1:zW (0+(s.getD i []).length) 8=true:=yE (by omega) (by omega)
  have e2:zW ((s.take i).length+1) 24=true:=yE (by rw[List.length_take];omega) (by rw[List.length_take];omega)
  simp only[qG,qO hi (show s.length<9223372036854775808 by omega),zU,aB,ai hi,av,e1,e2]
  rw[ie s i [] hi]
  exact yI6 hN hl hr c (i+1) n (by omega) (by omega)
theorem yU8 {k:Nat}{s:List (List Int)}(hl:s.length≤1000)(hk:s.length<k)(hr:∀i,i<s.length→(s.getD i []).length≤1000):EK k s=some s:=by
 unfold EK
 have:=yI6 (k:=k) rfl hl hr s.length 0 k (by omega) hk
 rw[List.take_zero] at this
 have e:((0:Nat):Int)=0:=rfl
 rw[e] at this
 rw[this]
 rfl
theorem yOb {k N:Nat}{s:List (List Int)}(hN:s.length=N)(hl:N≤1000)(hr:∀i,i<N→(s.getD i []).length≤1000):∀(c i n:Nat),i+c=N→c<n→EL k n s N i (s.take i) N=some (s,N)
 |0,i,n,h,hn=>by
  obtain⟨n,rfl⟩:∃m,n=m+1:=⟨n-1,by omega⟩
  show zn k _ s N i (s.take i) N=_
  unfold zn
  have:¬i<N:=by omega
  simp only[zU,aj this,ao]
  rw[List.take_of_length_le (by omega)]
 |c+1,i,n,h,hn=>by
  obtain⟨n,rfl⟩:∃m,n=m+1:=⟨n-1,by omega⟩
  show zn k _ s N i (s.take i) N=_
  unfold zn nn
  have hi:i<N:=by omega
  have h1:=hr i (by omega)
  have e1:zW (0+(s.getD i []).length) 8=true:=yE (by omega) (by omega)
  have e2:Nat.beq i (s.take i).length=true:=by rw[List.length_take,Nat.min_eq_left (by omega)];simp
  simp only[qG,qO hi (show N<9223372036854775808 by omega),zU,aB,ai hi,av,e1,e2,hN,ak]
  rw[ie s i [] (by omega)]
  exact yOb hN hl hr c (i+1) n (by omega) (by omega)
theorem qXf {k:Nat}{s:List (List Int)}(hl:s.length≤1000)(hk:s.length<k)(hr:∀i,i<s.length→(s.getD i []).length≤1000):EM k s=some s:=by
 unfold EM Qd
 have:=yOb (k:=k) rfl hl hr s.length 0 k (by omega) hk
 rw[List.take_zero] at this
 have e:((0:Nat):Int)=0:=rfl
 rw[e] at this
 have e1:zW (0+s.length) 24=true:=yE (by omega) (by omega)
 simp only[e1,av,ak]
 rw[this]
 simp only[ak,vSe]
 simp
structure Sized (a:List qN) (b:List (List Int)) (m:List Int) (p:List (List Int)):Prop where
 n1:1≤a.length
 n6:a.length≤6
 bl:b.length=a.length
 br:∀i,i<a.length→(b.getD i []).length=a.length
 ml:m.length=a.length
 pl:p.length=a.length
 pr:∀i,i<a.length→(p.getD i []).length=a.length
structure wH (a:List qN) (b:List (List Int)) (m:List Int) (p:List (List Int)):Prop extends Sized a b m p where
 acct:∀i,i<a.length→jJ (a.getD i (0,0,0))=true
 mul:∀i,i<a.length→wE (m.getD i 0)=true
 bil:∀i,i<a.length→∀j,j<a.length→wE (cell b i j)=true
 net:∀i,i<a.length→∀j,j<a.length→gf (cell p i j)=true
 turn:∀i,i<a.length→∀j,j<a.length→cell p i j=zA (0-cell p j i)
theorem IX {a:List qN}{b:List (List Int)}{m:List Int}{p:List (List Int)}:kM a b m p=true↔wH a b m p:=by
 unfold kM
 simp only[bN,bI,kL,nk,pJ,gG]
 constructor
 ·rintro⟨h1,h2,⟨h3,h4⟩,⟨h5,h6⟩,h7,h8,h9,Qe,Qf,h12⟩
  exact{n1:=h1,n6:=h2,bl:=h3,br:=h4,ml:=h7,pl:=h5,pr:=h6,acct:=h8,mul:=h9,bil:=Qe,net:=Qf,turn:=h12}
 ·intro h
  exact⟨h.n1,h.n6,⟨h.bl,h.br⟩,⟨h.pl,h.pr⟩,h.ml,h.acct,h.mul,h.bil,h.net,h.turn⟩
theorem EN {k:Nat}(hk:10<k){a:List qN}{b:List (List Int)}{m:List Int}{p:List (List Int)}(h:Sized a b m p):mn k a b m p=some (a,b,m,p):=by
 obtain⟨h1,h2,h3,h4,h5,h6,h7⟩:=h
 unfold mn
 have e1:zW (0+a.length) 24=true:=yE (by omega) (by omega)
 have e2:zW (0+m.length) 8=true:=yE (by omega) (by omega)
 rw[yU8 (s:=b) (by omega) (by omega) (fun i hi=>by rw[h4 i (by omega)];omega),yU8 (s:=p) (by omega) (by omega) (fun i hi=>by rw[h7 i (by omega)];omega)]
 simp only[e1,e2,av,ak]
theorem EO {k:Nat}(hk:10<k){a:List qN}{b:List (List Int)}{m:List Int}{p:List (List Int)}(h:Sized a b m p):fq k a b m p=some (a,b,m,p):=by
 obtain⟨h1,h2,h3,h4,h5,h6,h7⟩:=h
 unfold fq Qg nn
 have e1:zW (0+a.length) 24=true:=yE (by omega) (by omega)
 have e2:zW (0+m.length) 8=true:=yE (by omega) (by omega)
 rw[qXf (s:=b) (by omega) (by omega) (fun i hi=>by rw[h4 i (by omega)];omega),qXf (s:=p) (by omega) (by omega) (fun i hi=>by rw[h7 i (by omega)];omega)]
 simp only[e1,e2,av,ak]
theorem EP {α:Type}(d:α)[DecidableEq α]{a b:List α}(h:a.length=b.length):qK (fun i=>decide (a.getD i d=b.getD i d)) a.length 0=decide (a=b):=by
 rw[Bool.eq_iff_iff,gG]
 simp only[bI]
 exact⟨fun h'=>yz d h h',fun h'=>by subst h';exact fun i hi=>rfl⟩
theorem IY {k:Nat}{a b:List Int}(hk:a.length<k)(hl:a.length<9223372036854775808):pK k a b=some (decide (a=b)):=by
 unfold pK
 simp only[ow]
 by_cases h:a.length=b.length
 ·have := j8 (L := fun c i => ER k c a b i) (N := a.length) (fun i => decide (a.getD i 0 = b.getD i 0)) (.inl ()) (.inr false) (fun c=>by
    show zo k _ a b a.length=_
    unfold zo
    simp only [zU, aj (Nat.lt_irrefl _), ao]) (fun c i hi=>by
    show zo k _ a b i=_
    unfold zo
    simp only[qG,qO hi hl,zU,aB,←h,ai hi,av]
    cases decide (a.getD i 0=b.getD i 0)<;>rfl) hk
  rw[EP 0 h] at this
  simp only[h,decide_true,aY,ao]
  rw[this]
  cases decide (a=b)<;>rfl
 ·simp only[aj h,dX,av]
  rw[aj fun e=>h (by rw[e])]
theorem Qh {k:Nat}{a b:List (List Int)}(hk:a.length<k)(hl:a.length<9223372036854775808)(hr:∀i,i<a.length→(a.getD i []).length<k∧(a.getD i []).length<9223372036854775808):u9 k a b=some (decide (a=b)):=by
 unfold u9
 simp only[ow]
 by_cases h:a.length=b.length
 ·have := j8 (L := fun c i => ES k c a b i) (N := a.length) (fun i => decide (a.getD i [] = b.getD i [])) (.inl ()) (.inr false) (fun c=>by
    show zp k _ a b a.length=_
    unfold zp
    simp only [zU, aj (Nat.lt_irrefl _), ao]) (fun c i hi=>by
    show zp k _ a b i=_
    unfold zp
    simp only[qG,qO hi hl,zU,aB,←h,ai hi,av,IY (hr i hi).1 (hr i hi).2,ak]
    cases decide (a.getD i []=b.getD i [])<;>rfl) hk
  rw[EP [] h] at this
  simp only[h,decide_true,aY,ao]
  rw[this]
  cases decide (a=b)<;>rfl
 ·simp only[aj h,dX,av]
  rw[aj fun e=>h (by rw[e])]
theorem yYm {k:Nat}(hk:10<k){a:List qN}{b:List (List Int)}{m:List Int}{p:List (List Int)}(h:Sized a b m p)(a':List qN)(b':List (List Int))(m':List Int)(p':List (List Int)):
  ET k a b m p a' b' m' p'=some (decide (a=a')&&(decide (b=b')&&(decide (p=p')&&decide (m=m')))):=by
 obtain⟨h1,h2,h3,h4,h5,h6,h7⟩:=h
 unfold ET
 simp only[ow]
 by_cases hl:a.length=a'.length
 ·rw[Qh (a:=b) (by omega) (by omega) (fun i hi=>by rw[h4 i (by omega)];omega),Qh (a:=p) (by omega) (by omega) (fun i hi=>by rw[h7 i (by omega)];omega),IY (by omega) (by omega)]
  have := j8 (L := fun c i => EU k c i a b m p a' b' m' p') (N := a.length) (fun i => decide (a.getD i (0, 0, 0) = a'.getD i (0, 0, 0))) (.inl ()) (.inr false) (fun c=>by
    show zq k _ a.length a b m p a' b' m' p'=_
    unfold zq
    simp only [zU, aj (Nat.lt_irrefl _), ao]) (fun c i hi=>by
    show zq k _ i a b m p a' b' m' p'=_
    unfold zq
    simp only[qG,qO hi (show a.length<9223372036854775808 by omega),zU,aB,←hl,ai hi,av]
    have e:decide (a.getD i (0,0,0)=a'.getD i (0,0,0))=(decide ((a.getD i (0,0,0)).1=(a'.getD i (0,0,0)).1)&&(decide ((a.getD i (0,0,0)).2.1=(a'.getD i (0,0,0)).2.1)&&decide ((a.getD i (0,0,0)).2.2=(a'.getD i (0,0,0)).2.2))):=by
     rw[Bool.eq_iff_iff]
     simp only[bN,bI]
     exact⟨fun h=>by rw[h];exact⟨rfl,rfl,rfl⟩,fun h=>Prod.ext h.1 (Prod.ext h.2.1 h.2.2)⟩
    rw[e]
    generalize (decide ((a.getD i (0,0,0)).1=(a'.getD i (0,0,0)).1)&&_)=r
    cases r<;>rfl) (show a.length<k by omega)
  rw[EP (0,0,0) hl] at this
  simp only[hl,decide_true,aY,ao,ak]
  have e0:((0:Nat):Int)=0:=rfl
  rw[this]
  cases decide (b=b')<;>cases decide (p=p')<;>cases decide (m=m')<;>cases decide (a=a')<;>rfl
 ·simp only[aj hl,dX,av]
  rw[aj fun e=>hl (by rw[e])]
  rfl
abbrev pd:zB:=(0,(0,(0,(0,(0,(0,0))))))
abbrev ad:qN:=(0,(0,0))
def lG (n:Nat)(p:zB):Bool:=decide (p.2.1≥0)&&(decide (p.2.1<(n:Int))&&(decide (p.2.2.1≥0)&&(decide (p.2.2.1<(n:Int))&&(!decide (p.2.1=p.2.2.1)&&(decide (p.2.2.2.1≥1)&&(decide (p.2.2.2.1≤1099511627776)&&(decide (p.2.2.2.2.1≥1)&&decide (p.2.2.2.2.1≤3))))))))
structure yL (n:Nat) (p:zB):Prop where
 f0:0≤p.2.1
 f1:p.2.1<n
 t0:0≤p.2.2.1
 t1:p.2.2.1<n
 ne:p.2.1≠p.2.2.1
 a1:1≤p.2.2.2.1
 a2:p.2.2.2.1≤1099511627776
 c1:1≤p.2.2.2.2.1
 c3:p.2.2.2.2.1≤3
theorem Qi {n:Nat}{p:zB}:lG n p=true↔yL n p:=by
 unfold lG
 simp only[bN,bI,Bool.not_eq_true',decide_eq_false_iff_not]
 exact⟨fun⟨h1,h2,h3,h4,h5,h6,h7,h8,h9⟩=>⟨h1,h2,h3,h4,h5,h6,h7,h8,h9⟩,fun⟨h1,h2,h3,h4,h5,h6,h7,h8,h9⟩=>⟨h1,h2,h3,h4,h5,h6,h7,h8,h9⟩⟩
theorem IZ (k:Nat)(a:List qN)(b:List (List Int))(m:List Int)(p:List (List Int))(i f t am c s ti:Int):zr k a b m p i f t am c s ti=some (lG a.length (i,f,t,am,c,s,ti)):=by
 unfold zr lG
 cases decide (f≥0)<;>cases decide (f<(a.length:Int))<;>cases decide (t≥0)<;>cases decide (t<(a.length:Int))<;>cases decide (f=t)<;>cases decide (am≥1)<;>cases decide (am≤1099511627776)<;>cases decide (c≥1)<;>rfl
theorem vDl (k:Nat)(a:List qN)(b:List (List Int))(m:List Int)(p:List (List Int))(i f t am c s ti:Int):Qj k a b m p i f t am c s ti=some (lG a.length (i,f,t,am,c,s,ti)):=IZ k a b m p i f t am c s ti
def lH (n:Nat)(l:List zB):Bool:=qK (fun i=>lG n (l.getD i pd)) l.length 0
theorem zt {n:Nat}{l:List zB}:lH n l=true↔∀p∈l,yL n p:=by
 unfold lH
 rw[gG]
 constructor
 ·intro h p hp
  obtain⟨i,hi,rfl⟩:=List.getElem_of_mem hp
  have:=h i hi
  rw[List.getD_eq_getElem?_getD,List.getElem?_eq_getElem hi] at this
  exact Qi.1 this
 ·intro h i hi
  exact Qi.2 (h _ (wS hi))
theorem vB0 {k:Nat}{l:List zB}(hk:l.length<k)(hl:l.length<9223372036854775808)(a:List qN)(b:List (List Int))(m:List Int)(p:List (List Int)):I1 k l a b m p=some (!lH a.length l):=by
 obtain ⟨x, h1, h2⟩ := sy (L := fun c i => EV k c l l.length i a b m p) (N := l.length) (fun i => !lG a.length (l.getD i pd)) (fun c=>by
  show zu k _ l l.length l.length a b m p=_
  unfold zu
  simp only [zU, aj (Nat.lt_irrefl _), ao]) (fun c i hi=>by
  show zu k _ l l.length i a b m p=_
  unfold zu Qk
  simp only[qG,qO hi hl,zU,aB,ai hi,av,IZ,ak]) hk
 unfold I1 Ql
 rw[h1]
 simp only[Bool.not_not] at h2
 unfold lH
 rw[←h2]
 cases x<;>rfl
theorem yLj {k:Nat}{l:List zB}(hk:l.length<k)(hl:l.length<9223372036854775808)(a:List qN)(b:List (List Int))(m:List Int)(p:List (List Int)):EW k a b m p l=some (lH a.length l&&decide (l.length≤64)):=by
 unfold EW
 have := j8 (L := fun c i => EX k c l i a b m p) (N := l.length) (fun i => lG a.length (l.getD i pd)) (.inl l) (.inr false) (fun c=>by
  show zv k _ l l.length a b m p=_
  unfold zv
  simp only [zU, aj (Nat.lt_irrefl _), ao]) (fun c i hi=>by
  show zv k _ l i a b m p=_
  unfold zv
  simp only[qG,qO hi hl,zU,aB,ai hi,av,vDl,ak]
  show(bif !lG a.length (l.getD i pd) then _ else _)=_
  generalize lG a.length (l.getD i pd)=r
  cases r<;>rfl) hk
 rw[this]
 unfold lH
 have e:decide (((l.length:Nat):Int)≤64)=decide (l.length≤64):=by
  by_cases h:l.length≤64
  ·rw[ai h,ai (by omega)]
  ·rw[aj h,aj (by omega)]
 generalize qK _ _ _=r
 cases r
 ·rfl
 ·simp only[av,ak,Bool.true_and,e]
def gB (i:Nat)(p:zB):Int:=(if p.2.2.1=i then p.2.2.2.1 else 0)-(if p.2.1=i then p.2.2.2.1 else 0)
def gS (i j:Nat)(p:zB):Int:=if p.2.1=i∧p.2.2.1=j then p.2.2.2.1 else 0
def gR (i:Nat)(p:zB):Int:=if p.2.1=i∧p.2.2.2.2.1≠3 then p.2.2.2.1 else 0
def wB (r s:Int):Int:=if s≥r then 0 else r-s
theorem vRo {r s t:Int}(hs:0≤s)(ht:0≤t):wB (wB r s) t=wB r (s+t):=by
 unfold wB
 by_cases h:s≥r
 ·rw[if_pos h,if_pos (by omega),if_pos (by omega)]
 ·rw[if_neg h]
  by_cases h':t≥r-s
  ·rw[if_pos h',if_pos (by omega)]
  ·rw[if_neg h',if_neg (by omega)];omega
theorem Qm {r:Int}(hr:0≤r):wB r 0=r:=by
 unfold wB
 by_cases h:(0:Int)≥r
 ·rw[if_pos h];omega
 ·rw[if_neg h];omega
theorem yZk {r s:Int}:0≤wB r s:=by
 unfold wB
 by_cases h:s≥r
 ·rw[if_pos h];exact Int.le_refl 0
 ·rw[if_neg h];omega
theorem vD8 {r s:Int}(hr:0≤r)(hs:0≤s):wB r s≤r:=by
 unfold wB
 by_cases h:s≥r
 ·rw[if_pos h];exact hr
 ·rw[if_neg h];omega
section
variable {n:Nat} {p:zB}
theorem vRs (h:yL n p)(i:Nat):-1099511627776≤gB i p∧gB i p≤1099511627776:=by
 have h1:=h.a1;have h2:=h.a2;have h3:=h.ne
 unfold gB
 by_cases e:p.2.2.1=i
 ·rw[if_pos e,if_neg (by omega)];omega
 ·rw[if_neg e]
  by_cases e':p.2.1=i
  ·rw[if_pos e'];omega
  ·rw[if_neg e'];omega
theorem I2 (h:yL n p)(i j:Nat):0≤gS i j p∧gS i j p≤1099511627776:=by
 have h1:=h.a1;have h2:=h.a2
 unfold gS
 by_cases e:p.2.1=i∧p.2.2.1=j
 ·rw[if_pos e];omega
 ·rw[if_neg e];omega
theorem I3 (h:yL n p)(i:Nat):0≤gR i p∧gR i p≤1099511627776:=by
 have h1:=h.a1;have h2:=h.a2
 unfold gR
 by_cases e:p.2.1=i∧p.2.2.2.2.1≠3
 ·rw[if_pos e];omega
 ·rw[if_neg e];omega
end
def vS (n:Nat)(l:List zB):Prop:=(∀p∈l,yL n p)∧l.length≤64
theorem I4 {n:Nat}{l:List zB}(h:vS n l)(i:Nat):-70368744177664≤zR (gB i) l∧zR (gB i) l≤70368744177664:=by
 have h1:=yx (g:=gB i) (A:=1099511627776) fun p hp=>vRs (h.1 p hp) i
 have h2:=h.2
 have h3:(l.length:Int)*1099511627776≤70368744177664:=by omega
 omega
theorem pL {n:Nat}{l:List zB}(h:vS n l)(i j:Nat):0≤zR (gS i j) l∧zR (gS i j) l≤70368744177664:=by
 have h1:=yx (g:=gS i j) (A:=1099511627776) fun p hp=>by have:=I2 (h.1 p hp) i j;omega
 have h0:=sA (g:=gS i j) fun p hp=>(I2 (h.1 p hp) i j).1
 have h2:=h.2
 have h3:(l.length:Int)*1099511627776≤70368744177664:=by omega
 omega
theorem vd {n:Nat}{l:List zB}(h:vS n l)(i:Nat):0≤zR (gR i) l∧zR (gR i) l≤70368744177664:=by
 have h1:=yx (g:=gR i) (A:=1099511627776) fun p hp=>by have:=I3 (h.1 p hp) i;omega
 have h0:=sA (g:=gR i) fun p hp=>(I3 (h.1 p hp) i).1
 have h2:=h.2
 have h3:(l.length:Int)*1099511627776≤70368744177664:=by omega
 omega
theorem vS.take {n:Nat}{l:List zB}(h:vS n l)(i:Nat):vS n (l.take i):=⟨fun p hp=>h.1 p (List.mem_of_mem_take hp),by rw[List.length_take];have:=h.2;omega⟩
structure sD (n:Nat) (a:List qN) (p:List (List Int)) (l:List zB) (a':List qN) (p':List (List Int)):Prop where
 al:a'.length=n
 acct:∀i,i<n→a'.getD i ad=((a.getD i ad).1+zR (gB i) l,(a.getD i ad).2.1,wB (a.getD i ad).2.2 (zR (gR i) l))
 pl:p'.length=n
 pr:∀i,i<n→(p'.getD i []).length=n
 cell:∀i,i<n→∀j,j<n→cell p' i j=cell p i j+zR (gS i j) l-zR (gS j i) l
theorem vHv {n:Nat}{p q:List (List Int)}(hp:p.length=n)(hq:q.length=n)(lF:∀i,i<n→(p.getD i []).length=n)(hqr:∀i,i<n→(q.getD i []).length=n)(h:∀i,i<n→∀j,j<n→cell p i j=cell q i j):p=q:=
 yz [] (by omega) fun i hi=>yz 0 (by rw[lF i (by omega),hqr i (by omega)]) fun j hj=>h i (by omega) j (by rw[lF i (by omega)] at hj;exact hj)
theorem sD.same {n:Nat}{a a1 a2:List qN}{p p1 p2:List (List Int)}{l:List zB}(x:sD n a p l a1 p1)(y:sD n a p l a2 p2):a1=a2∧p1=p2:=
 ⟨yz ad (by rw[x.al,y.al]) fun i hi=>by have:=x.al;rw[x.acct i (by omega),y.acct i (by omega)],
  vHv x.pl y.pl x.pr y.pr fun i hi j hj=>by rw[x.cell i hi j hj,y.cell i hi j hj]⟩
structure I5 (n:Nat) (a:List qN) (p:List (List Int)):Prop where
 al:a.length=n
 pl:p.length=n
 pr:∀i,i<n→(p.getD i []).length=n
 bal:∀i,i<n→-4611686018427387904<(a.getD i ad).1∧(a.getD i ad).1<4611686018427387904
 res:∀i,i<n→0≤(a.getD i ad).2.2∧(a.getD i ad).2.2≤2305843009213693952
 net:∀i,i<n→∀j,j<n→-72057594037927936<cell p i j∧cell p i j<72057594037927936
theorem wH.nums {a:List qN}{b:List (List Int)}{m:List Int}{p:List (List Int)}(h:wH a b m p):I5 a.length a p where
 al:=rfl
 pl:=h.pl
 pr:=h.pr
 bal:=fun i hi=>by
  have:=h.acct i hi
  show-4611686018427387904<(a.getD i (0,0,0)).1∧(a.getD i (0,0,0)).1<4611686018427387904
  simp only[jJ,bN,bI] at this
  omega
 res:=fun i hi=>by
  have:=h.acct i hi
  show 0≤(a.getD i (0,0,0)).2.2∧(a.getD i (0,0,0)).2.2≤2305843009213693952
  simp only[jJ,bN,bI] at this
  omega
 net:=fun i hi j hj=>by
  have:=h.net i hi j hj
  simp only[gf,bN,bI] at this
  omega
theorem Qn {m:List (List Int)}{f t i j:Nat}{x:Int}(hf:f<m.length)(ht:t<(m.getD f []).length):cell (m.set f ((m.getD f []).set t x)) i j=if i=f∧j=t then x else cell m i j:=by
 unfold cell
 rw[wL]
 by_cases h:f=i
 ·rw[if_pos ⟨h,hf⟩,wL]
  by_cases h':t=j
  ·rw[if_pos ⟨h',ht⟩,if_pos ⟨h.symm,h'.symm⟩]
  ·rw[if_neg (fun e=>h' e.1),if_neg (fun e=>h' e.2.symm),h]
 ·rw[if_neg (fun e=>h e.1),if_neg (fun e=>h e.1.symm)]
theorem EY {n:Nat}{m:List (List Int)}{f t:Nat}{x:Int}(hm:m.length=n)(hr:∀i,i<n→(m.getD i []).length=n)(hf:f<n):∀i,i<n→((m.set f ((m.getD f []).set t x)).getD i []).length=n:=by
 intro i hi
 rw[wL]
 by_cases h:f=i
 ·rw[if_pos ⟨h,by omega⟩,List.length_set];exact hr f hf
 ·rw[if_neg (fun e=>h e.1)];exact hr i hi
def zw (p:zB)(r:List qN):List qN:=
 let y0:=r.set p.2.1.toNat (zA ((r.getD p.2.1.toNat ad).1-p.2.2.2.1),(r.getD p.2.1.toNat ad).2)
 let y1:=y0.set p.2.2.1.toNat (zA ((y0.getD p.2.2.1.toNat ad).1+p.2.2.2.1),(y0.getD p.2.2.1.toNat ad).2)
 bif !decide (p.2.2.2.2.1=3) then y1.set p.2.1.toNat ((y1.getD p.2.1.toNat ad).1,((y1.getD p.2.1.toNat ad).2.1,sm false (zA ((y1.getD p.2.1.toNat ad).2.2-p.2.2.2.1)) 0)) else y1
def sE (p:zB)(m:List (List Int)):List (List Int):=
 let y3:=m.set p.2.1.toNat ((m.getD p.2.1.toNat []).set p.2.2.1.toNat (zA ((m.getD p.2.1.toNat []).getD p.2.2.1.toNat 0+p.2.2.2.1)))
 y3.set p.2.2.1.toNat ((y3.getD p.2.2.1.toNat []).set p.2.1.toNat (zA ((y3.getD p.2.2.1.toNat []).getD p.2.1.toNat 0-p.2.2.2.1)))
theorem vMx (p:zB)(r:List qN):(zw p r).length=r.length:=by
 unfold zw
 cases decide (p.2.2.2.2.1=3)<;>simp
theorem vPv {n:Nat}{p:zB}(h:yL n p){r:List qN}(hr:r.length=n){i:Nat}(hi:i<n)(hb:∀i,i<n→-4611826755915743232<(r.getD i ad).1∧(r.getD i ad).1<4611826755915743232)
  (hz:∀i,i<n→0≤(r.getD i ad).2.2∧(r.getD i ad).2.2≤2305843009213693952):(zw p r).getD i ad=((r.getD i ad).1+gB i p,(r.getD i ad).2.1,wB (r.getD i ad).2.2 (gR i p)):=by
 obtain⟨f0,f1,t0,t1,ne,a1,a2,c1,c3⟩:=h
 obtain⟨f,hf⟩:∃f:Nat,p.2.1=f:=⟨p.2.1.toNat,by omega⟩
 obtain⟨t,ht⟩:∃t:Nat,p.2.2.1=t:=⟨p.2.2.1.toNat,by omega⟩
 have EZ:f≠t:=by omega
 have gg:f<n:=by omega
 have ft:t<n:=by omega
 have bf:=hb f gg
 have bt:=hb t ft
 have zf:=hz f gg
 have e1:(r.set f (zA ((r.getD f ad).1-p.2.2.2.1),(r.getD f ad).2)).getD t ad=r.getD t ad:=by rw[wL,if_neg (fun e=>EZ e.1)]
 have key:∀j,j<n→((r.set f (zA ((r.getD f ad).1-p.2.2.2.1),(r.getD f ad).2)).set t (zA ((r.getD t ad).1+p.2.2.2.1),(r.getD t ad).2)).getD j ad=((r.getD j ad).1+gB j p,(r.getD j ad).2):=by
  intro j hj
  unfold gB
  rw[hf,ht,wL]
  by_cases hjt:t=j
  ·subst hjt
   rw[if_pos ⟨rfl,by rw[List.length_set];omega⟩,if_pos rfl,if_neg (by omega),zV (by omega) (by omega)]
   simp
  ·rw[if_neg (fun e=>hjt e.1),if_neg (by omega),wL]
   by_cases hjf:f=j
   ·subst hjf
    rw[if_pos ⟨rfl,by omega⟩,if_pos rfl,zV (by omega) (by omega)]
    simp only[Int.zero_sub];rfl
   ·rw[if_neg (fun e=>hjf e.1),if_neg (by omega)]
    simp
 unfold zw
 simp only[hf,ht,aB,e1]
 unfold gR
 cases hc:decide (p.2.2.2.2.1=3) with
 |true=>
  have ju:p.2.2.2.2.1=3:=by simpa using hc
  simp only[aY,ao]
  rw[key i hi,if_neg (fun e=>e.2 ju),Qm (hz i hi).1]
 |false=>
  have ju:p.2.2.2.2.1≠3:=by simpa using hc
  simp only[dX,av]
  rw[wL]
  by_cases hif:f=i
  ·subst hif
   rw[if_pos ⟨rfl,by simp only[List.length_set];omega⟩,key f gg,if_pos ⟨hf,ju⟩]
   have:sm false (zA ((r.getD f ad).2.2-p.2.2.2.1)) 0=wB (r.getD f ad).2.2 p.2.2.2.1:=by
    rw[zV (by omega) (by omega)]
    unfold sm wB
    simp only[ao]
    by_cases h:p.2.2.2.1≥(r.getD f ad).2.2
    ·rw[if_pos h]
     by_cases h':(0:Int)>(r.getD f ad).2.2-p.2.2.2.1
     ·rw[ai h'];rfl
     ·rw[aj h']
      show(r.getD f ad).2.2-p.2.2.2.1=0
      omega
    ·rw[if_neg h,aj (by omega)];rfl
   rw[this]
  ·rw[if_neg (fun e=>hif e.1),key i hi,if_neg (by omega),Qm (hz i hi).1]
theorem yLf {n:Nat}{p:zB}(h:yL n p){m:List (List Int)}(hm:m.length=n)(hr:∀i,i<n→(m.getD i []).length=n)(hb:∀i,i<n→∀j,j<n→-72128000000000000<cell m i j∧cell m i j<72128000000000000):
  (sE p m).length=n∧(∀i,i<n→((sE p m).getD i []).length=n)∧∀i,i<n→∀j,j<n→cell (sE p m) i j=cell m i j+gS i j p-gS j i p:=by
 obtain⟨f0,f1,t0,t1,ne,a1,a2,c1,c3⟩:=h
 obtain⟨f,hf⟩:∃f:Nat,p.2.1=f:=⟨p.2.1.toNat,by omega⟩
 obtain⟨t,ht⟩:∃t:Nat,p.2.2.1=t:=⟨p.2.2.1.toNat,by omega⟩
 have EZ:f≠t:=by omega
 have gg:f<n:=by omega
 have ft:t<n:=by omega
 unfold sE
 simp only[hf,ht,aB]
 have r1:=EY (x:=zA ((m.getD f []).getD t 0+p.2.2.2.1)) (t:=t) hm hr gg
 have c1:∀i j,cell (m.set f ((m.getD f []).set t (zA ((m.getD f []).getD t 0+p.2.2.2.1)))) i j=if i=f∧j=t then zA (cell m f t+p.2.2.2.1) else cell m i j:=fun i j=>Qn (by omega) (by rw[hr f gg];omega)
 refine⟨by simp only[List.length_set];exact hm,EY (by rw[List.length_set];exact hm) r1 ft,fun i hi j hj=>?_⟩
 rw[Qn (by rw[List.length_set];omega) (by rw[r1 t ft];omega)]
 have e2:((m.set f ((m.getD f []).set t (zA ((m.getD f []).getD t 0+p.2.2.2.1)))).getD t []).getD f 0=cell m t f:=by
  show cell _ t f=_
  rw[c1,if_neg (fun e=>EZ e.1.symm)]
 rw[e2,c1]
 unfold gS
 rw[hf,ht]
 have b1:=hb f gg t ft
 have b2:=hb t ft f gg
 by_cases h1:i=t∧j=f
 ·obtain⟨rfl,rfl⟩:=h1
  rw[if_pos ⟨rfl,rfl⟩,if_neg (by omega),if_pos ⟨rfl,rfl⟩,zV (by omega) (by omega)]
  omega
 ·rw[if_neg h1]
  by_cases h2:i=f∧j=t
  ·obtain⟨rfl,rfl⟩:=h2
   rw[if_pos ⟨rfl,rfl⟩,if_pos ⟨rfl,rfl⟩,if_neg (by omega),zV (by omega) (by omega)]
   omega
  ·rw[if_neg h2,if_neg (by omega),if_neg (by omega)]
   omega
theorem vBf {k n:Nat}{a:List qN}{b:List (List Int)}{m:List Int}{p:List (List Int)}{l:List zB}(hk:l.length<k)(hx:I5 n a p)(hl:vS n l)(b0:List qN)(b1:List (List Int))(b2:List Int)(b3:List (List Int)):
  ∃a' p',zx k k l l.length 0 b0 b1 b2 b3 a b m p=some (b0,b1,b2,b3,a',b,m,p')∧sD n a p l a' p':=by
 have := vF (L := fun c i (s : List qN × List (List Int)) => zx k c l l.length i b0 b1 b2 b3 s.1 b m s.2) (N := l.length) (fun s => (b0, b1, b2, b3, s.1, b, m, s.2)) (fun i s => sD n a p (l.take i) s.1 s.2) (fun c s hs=>by
   show zy k _ l l.length l.length b0 b1 b2 b3 s.1 b m s.2=_
   unfold zy
   simp only [zU, aj (Nat.lt_irrefl _), ao]) (fun c i s hi hs=>by
   refine⟨(zw (l.getD i pd) s.1,sE (l.getD i pd) s.2),?_,?_⟩
   ·show zy k _ l l.length i b0 b1 b2 b3 s.1 b m s.2=_
    have bU:yL n (l.getD i pd):=hl.1 _ (wS hi)
    unfold zy zw sE
    have lI:=hl.2
    simp only[qG,qO hi (show l.length<9223372036854775808 by omega),zU,aB,ai hi,av]
    obtain⟨f0,f1,t0,t1,ne,a1,a2,c1,c3⟩:=bU
    obtain⟨f,hf⟩:∃f:Nat,(l.getD i pd).2.1=f:=⟨(l.getD i pd).2.1.toNat,by omega⟩
    obtain⟨t,ht⟩:∃t:Nat,(l.getD i pd).2.2.1=t:=⟨(l.getD i pd).2.2.1.toNat,by omega⟩
    have gg:f<n:=by omega
    have ft:t<n:=by omega
    have r1:=EY (x:=zA ((s.2.getD f []).getD t 0+(l.getD i pd).2.2.2.1)) (t:=t) hs.pl hs.pr gg
    simp only[hf,ht,aB,qG,hs.al,hs.pl,List.length_set,hs.pr f gg,r1 t ft,ai gg,ai ft,av,sF,ak]
    cases decide ((l.getD i pd).2.2.2.2.1=3)<;>rfl
   ·have bU:yL n (l.getD i pd):=hl.1 _ (wS hi)
    have aP:=hl.take i
    have hp := yLf bU hs.pl hs.pr (fun i' bM j' hY=>by
     rw[hs.cell i' bM j' hY]
     have h1:=hx.net i' bM j' hY
     have h2:=pL aP i' j'
     have h3:=pL aP j' i'
     omega)
    refine⟨by rw[vMx];exact hs.al,fun i' bM=>?_,hp.1,hp.2.1,fun i' bM j' hY=>?_⟩
    ·rw [vPv bU hs.al bM (fun j hj=>by
       rw[hs.acct j hj]
       have h1:=hx.bal j hj
       have h2:=I4 aP j
       dsimp only
       omega) (fun j hj=>by
       rw[hs.acct j hj]
       have h1:=hx.res j hj
       have h2:=vd aP j
       dsimp only
       exact⟨yZk,Int.le_trans (vD8 h1.1 h2.1) h1.2⟩),hs.acct i' bM,←ie l i pd hi,j9,j9]
     dsimp only[zR]
     rw[vRo (vd aP i').1 (I3 bU i').1,Int.add_zero,Int.add_zero,Int.add_assoc]
    ·rw[hp.2.2 i' bM j' hY,hs.cell i' bM j' hY,←ie l i pd hi,j9,j9]
     dsimp only[zR]
     omega) (s:=(a,p)) hk ⟨hx.al,fun i hi=>by
      rw[List.take_zero]
      show a.getD i ad=((a.getD i ad).1+0,(a.getD i ad).2.1,wB (a.getD i ad).2.2 0)
      rw[Qm (hx.res i hi).1,Int.add_zero],hx.pl,hx.pr,fun i hi j hj=>by
      rw[List.take_zero]
      show cell p i j=cell p i j+0-0
      omega⟩
 obtain⟨s,h1,h2⟩:=this
 rw[List.take_of_length_le (Nat.le_refl _)] at h2
 exact⟨s.1,s.2,h1,h2⟩
theorem Qo {k n:Nat}{l:List zB}(hk:l.length<k)(hl:vS n l)(i j:Nat):sG k l i j=some (zR (gS i j) l):=by
 have lI:=hl.2
 obtain ⟨s, h1, h2⟩ := vF (L := fun c x (s : Int) => E0 k c l i j s x) (N := l.length) (fun s => s) (fun x s => s = zR (gS i j) (l.take x)) (fun c s hs=>by
   show zz k _ l i j s l.length=_
   unfold zz
   simp only [zU, aj (Nat.lt_irrefl _), ao]) (fun c x s hx hs=>by
   refine⟨zR (gS i j) (l.take (x+1)),?_,rfl⟩
   show zz k _ l i j s x=_
   have hb:=pL (hl.take x) i j
   have hm:yL n (l.getD x pd):=hl.1 _ (wS hx)
   have hg:=I2 hm i j
   have e:zR (gS i j) (l.take (x+1))=s+gS i j (l.getD x pd):=by
    rw[←ie l x pd hx,j9,hs]
    show _+(_+0)=_
    omega
   have w:=zV (x:=s+(l.getD x pd).2.2.2.1) (by have:=hm.a1;rw[hs];omega) (by have:=hm.a2;rw[hs];omega)
   unfold zz
   simp only[qG,qO hx (show l.length<9223372036854775808 by omega),zU,aB,ai hx,av]
   rw[e]
   unfold gS
   by_cases c1:(l.getD x pd).2.1=(i:Int)
   ·rw[ai c1]
    by_cases c2:(l.getD x pd).2.2.1=(j:Int)
    ·rw[ai c2,if_pos ⟨c1,c2⟩,w];rfl
    ·rw[aj c2,if_neg (fun e=>c2 e.2),Int.add_zero];rfl
   ·rw[aj c1,if_neg (fun e=>c1 e.1),Int.add_zero];rfl) (s:=0) hk rfl
 unfold sG
 rw[h1]
 rw[List.take_of_length_le (Nat.le_refl _)] at h2
 rw[h2]
 rfl
theorem vR5 {k n:Nat}{l:List zB}(hk:l.length<k)(hl:vS n l)(i j:Nat):I6 k l i j=some (zR (gS i j) l-zR (gS j i) l):=by
 unfold I6
 rw[Qo hk hl i j,Qo hk hl j i]
 have h1:=pL hl i j
 have h2:=pL hl j i
 simp only[ak]
 rw[zV (by omega) (by omega)]
def gN (i:Nat)(p:zB):Int:=if p.2.1=i∧p.2.2.2.2.1=3 then p.2.2.2.1 else 0
theorem I7 {n:Nat}{p:zB}(h:yL n p)(i:Nat):0≤gN i p∧gN i p≤1099511627776:=by
 have h1:=h.a1;have h2:=h.a2
 unfold gN
 by_cases e:p.2.1=i∧p.2.2.2.2.1=3
 ·rw[if_pos e];omega
 ·rw[if_neg e];omega
theorem yCi {n:Nat}{l:List zB}(h:vS n l)(i:Nat):0≤zR (gN i) l∧zR (gN i) l≤70368744177664:=by
 have h1:=yx (g:=gN i) (A:=1099511627776) fun p hp=>by have:=I7 (h.1 p hp) i;omega
 have h0:=sA (g:=gN i) fun p hp=>(I7 (h.1 p hp) i).1
 have h2:=h.2
 have h3:(l.length:Int)*1099511627776≤70368744177664:=by omega
 omega
theorem qVc {k n:Nat}{l:List zB}(hk:l.length<k)(hl:vS n l)(i:Nat):E1 k l i=some (zR (gN i) l,zR (gR i) l):=by
 have lI:=hl.2
 obtain ⟨s, h1, h2⟩ := vF (L := fun c x (s : Int × Int) => E2 k c l i s.1 s.2 x) (N := l.length) (fun s => s) (fun x s => s = (zR (gN i) (l.take x), zR (gR i) (l.take x))) (fun c s hs=>by
   show z9 k _ l i s.1 s.2 l.length=_
   unfold z9
   simp only [zU, aj (Nat.lt_irrefl _), ao]) (fun c x s hx hs=>by
   refine⟨(zR (gN i) (l.take (x+1)),zR (gR i) (l.take (x+1))),?_,rfl⟩
   show z9 k _ l i s.1 s.2 x=_
   have hb:=yCi (hl.take x) i
   have bJ:=vd (hl.take x) i
   have hm:yL n (l.getD x pd):=hl.1 _ (wS hx)
   have e:zR (gN i) (l.take (x+1))=s.1+gN i (l.getD x pd):=by
    rw[←ie l x pd hx,j9,hs]
    show _+(_+0)=_
    omega
   have e':zR (gR i) (l.take (x+1))=s.2+gR i (l.getD x pd):=by
    rw[←ie l x pd hx,j9,hs]
    show _+(_+0)=_
    omega
   have w:=zV (x:=s.1+(l.getD x pd).2.2.2.1) (by have:=hm.a1;rw[hs];dsimp only;omega) (by have:=hm.a2;rw[hs];dsimp only;omega)
   have w':=zV (x:=s.2+(l.getD x pd).2.2.2.1) (by have:=hm.a1;rw[hs];dsimp only;omega) (by have:=hm.a2;rw[hs];dsimp only;omega)
   unfold z9
   simp only[qG,qO hx (show l.length<9223372036854775808 by omega),zU,aB,ai hx,av]
   rw[e,e']
   unfold gN gR
   by_cases c1:(l.getD x pd).2.1=(i:Int)
   ·rw[ai c1]
    by_cases c2:(l.getD x pd).2.2.2.2.1=3
    ·rw[ai c2,if_pos ⟨c1,c2⟩,if_neg (fun e=>e.2 c2),w,Int.add_zero];rfl
    ·rw[aj c2,if_neg (fun e=>c2 e.2),if_pos ⟨c1,c2⟩,w',Int.add_zero];rfl
   ·rw[aj c1,if_neg (fun e=>c1 e.1),if_neg (fun e=>c1 e.1),Int.add_zero,Int.add_zero];rfl) (s:=(0,0)) hk rfl
 unfold E1
 rw[h1]
 rw[List.take_of_length_le (Nat.le_refl _)] at h2
 rw[h2]
 rfl
theorem vDe {k n:Nat}{l:List zB}(hk:l.length<k)(hl:vS n l)(i:Nat):I8 k l i=some (zR (gR i) l):=by
 unfold I8
 rw[qVc hk hl i]
 rfl
theorem yBv (k:Nat)(b c r s:Int)(h:-9223372036854775808≤r-s)(h':r<9223372036854775808)(hs:0≤s):Ac k b c r s=some (wB r s):=by
 unfold Ac wB
 by_cases e:s≥r
 ·rw[ai e,if_pos e];rfl
 ·rw[aj e,if_neg e,zV h (by omega)];rfl
theorem qVh {n:Nat}{l:List zB}(hl:∀p∈l,yL n p)(i:Nat)(hi:i<n):qM (fun j=>zR (gS i j) l-zR (gS j i) l) n= -zR (gB i) l:=by
 have e1:qM (fun j=>zR (gS i j) l-zR (gS j i) l) n=qM (fun j=>zR (fun p=>gS i j p-gS j i p) l) n:=lE fun j _=>(P1 _ _ l).symm
 rw[e1,IK (fun j p=>gS i j p-gS j i p)]
 have e2:∀p∈l,qM (fun j=>gS i j p-gS j i p) n=0-gB i p:=by
  intro p hp
  obtain⟨f0,f1,t0,t1,ne,a1,a2,c1,c3⟩:=hl p hp
  obtain⟨f,hf⟩:∃f:Nat,p.2.1=f:=⟨p.2.1.toNat,by omega⟩
  obtain⟨t,ht⟩:∃t:Nat,p.2.2.1=t:=⟨p.2.2.1.toNat,by omega⟩
  have g1:∀j,gS i j p-gS j i p=(if j=t then(if f=i then p.2.2.2.1 else 0) else 0)+(if j=f then(if t=i then-p.2.2.2.1 else 0) else 0):=by
   intro j
   unfold gS
   rw[hf,ht]
   by_cases a:f=i<;>by_cases b:t=i<;>by_cases c:j=t<;>by_cases d:j=f<;>(repeat (first|rw[if_pos (by omega)]|rw[if_neg (by omega)]))<;>omega
  rw[lE fun j _=>g1 j,yy,uY,uY]
  unfold gB
  rw[hf,ht]
  by_cases a:f=i<;>by_cases b:t=i<;>(repeat (first|rw[if_pos (by omega)]|rw[if_neg (by omega)]))<;>omega
 rw[IJ e2,P1]
 have:zR (fun _:zB=>(0:Int)) l=0:=by
  clear e1 e2 hl
  induction l with
  |nil=>rfl
  |cons p l ih=>show 0+zR _ l=0;rw[ih];rfl
 rw[this];omega
structure vIp (n:Nat) (a:List qN) (p:List (List Int)) (l:List zB) (i:Nat) (a':List qN) (p':List (List Int)):Prop where
 al:a'.length=n
 done:∀x,x<n→x<i→a'.getD x ad=((a.getD x ad).1+zR (gB x) l,(a.getD x ad).2.1,wB (a.getD x ad).2.2 (zR (gR x) l))
 rest:∀x,x<n→¬x<i→a'.getD x ad=a.getD x ad
 pl:p'.length=n
 pr:∀x,x<n→(p'.getD x []).length=n
 cell:∀x,x<n→∀y,y<n→cell p' x y=if x<i then cell p x y+zR (gS x y) l-zR (gS y x) l else cell p x y
structure Qp (n:Nat) (a:List qN) (p:List (List Int)) (l:List zB) (i j:Nat) (a':List qN) (p':List (List Int)):Prop where
 al:a'.length=n
 done:∀x,x<n→x<i→a'.getD x ad=((a.getD x ad).1+zR (gB x) l,(a.getD x ad).2.1,wB (a.getD x ad).2.2 (zR (gR x) l))
 here:a'.getD i ad=((a.getD i ad).1-qM (fun j=>zR (gS i j) l-zR (gS j i) l) j,(a.getD i ad).2.1,wB (a.getD i ad).2.2 (zR (gR i) l))
 rest:∀x,x<n→i<x→a'.getD x ad=a.getD x ad
 pl:p'.length=n
 pr:∀x,x<n→(p'.getD x []).length=n
 cell:∀x,x<n→∀y,y<n→cell p' x y=if x<i∨(x=i∧y<j) then cell p x y+zR (gS x y) l-zR (gS y x) l else cell p x y
theorem vEe {k n:Nat}{a:List qN}{p:List (List Int)}{l:List zB}(hk:n<k)(bP:l.length<k)(hn:n≤1000)(hx:I5 n a p)(hl:vS n l){i:Nat}(hi:i<n)(b0:List qN)(b1:List (List Int))(b2:List Int)(b3:List (List Int))(b:List (List Int))(m:List Int)
  {a0:List qN} {p0:List (List Int)} (h0:Qp n a p l i 0 a0 p0):∃a' p',Ad k k l i 0 b0 b1 b2 b3 a0 b m p0=some (l,(i:Int),b0,b1,b2,b3,a',b,m,p')∧Qp n a p l i n a' p':=by
 obtain ⟨s, h1, h2⟩ := vF (L := fun c j (s : List qN × List (List Int)) => Ad k c l i j b0 b1 b2 b3 s.1 b m s.2) (N := n) (fun s => (l, (i : Int), b0, b1, b2, b3, s.1, b, m, s.2)) (fun j s => Qp n a p l i j s.1 s.2) (fun c s hs=>by
   show Ae k _ l i n b0 b1 b2 b3 s.1 b m s.2=_
   unfold Ae
   simp only [zU, hs.al, aj (Nat.lt_irrefl _), ao]) (fun c j s hj hs=>by
   refine⟨(s.1.set i (zA ((s.1.getD i ad).1-(zR (gS i j) l-zR (gS j i) l)),(s.1.getD i ad).2),s.2.set i ((s.2.getD i []).set j (zA ((s.2.getD i []).getD j 0+(zR (gS i j) l-zR (gS j i) l))))),?_,?_⟩
   ·show Ae k _ l i j b0 b1 b2 b3 s.1 b m s.2=_
    unfold Ae
    simp only[qG,qO hj (show n<9223372036854775808 by omega),zU,aB,hs.al,hs.pl,hs.pr i hi,ai hi,ai hj,av,vR5 bP hl,ak]
   ·have hb:=hx.bal i hi
    have hg:∀j,-70368744177664≤zR (gS i j) l-zR (gS j i) l∧zR (gS i j) l-zR (gS j i) l≤70368744177664:=fun j=>by
     have h1:=pL hl i j
     have h2:=pL hl j i
     omega
    have HV:=sB hg j
    have I9:=hg j
    have hj1:(j:Int)*70368744177664≤1000*70368744177664:=by omega
    have np:=hx.net i hi j hj
    have hc:=hs.cell i hi j hj
    rw[if_neg (by omega)] at hc
    refine⟨by simp only[List.length_set];exact hs.al,fun x ig sH=>?_,?_,fun x ig sH=>?_,by simp only[List.length_set];exact hs.pl,EY hs.pl hs.pr hi,fun x ig y E3=>?_⟩
    ·rw[wL,if_neg (fun e=>by omega)]
     exact hs.done x ig sH
    ·rw[wL,if_pos ⟨rfl,by rw[hs.al];exact hi⟩,hs.here]
     dsimp only
     rw[zV (by omega) (by omega)]
     show(_,_)=((a.getD i ad).1-(qM _ j+_),_)
     rw[Int.sub_sub]
    ·rw[wL,if_neg (fun e=>by omega)]
     exact hs.rest x ig sH
    ·have e:(s.2.getD i []).getD j 0=cell p i j:=hc
     rw[Qn (by rw[hs.pl];exact hi) (by rw[hs.pr i hi];exact hj),e]
     by_cases Ja:x=i∧y=j
     ·obtain⟨rfl,rfl⟩:=Ja
      rw[if_pos ⟨rfl,rfl⟩,if_pos (by omega),zV (by omega) (by omega)]
      omega
     ·rw[if_neg Ja,hs.cell x ig y E3]
      by_cases h:x<i∨(x=i∧y<j)
      ·rw[if_pos h,if_pos (by omega)]
      ·rw[if_neg h,if_neg (by omega)]) (s:=(a0,p0)) hk h0
 exact⟨s.1,s.2,h1,h2⟩
theorem yZz {k n:Nat}{a:List qN}{b:List (List Int)}{m:List Int}{p:List (List Int)}{l:List zB}(hk:n<k)(bP:l.length<k)(hn:n≤1000)(hx:I5 n a p)(hl:vS n l)(b0:List qN)(b1:List (List Int))(b2:List Int)(b3:List (List Int)):
  ∃a' p',Af k k l 0 b0 b1 b2 b3 a b m p=some (b0,b1,b2,b3,a',b,m,p')∧sD n a p l a' p':=by
 obtain ⟨s, h1, h2⟩ := vF (L := fun c i (s : List qN × List (List Int)) => Af k c l i b0 b1 b2 b3 s.1 b m s.2) (N := n) (fun s => (b0, b1, b2, b3, s.1, b, m, s.2)) (fun i s => vIp n a p l i s.1 s.2) (fun c s hs=>by
   show Ag k _ l n b0 b1 b2 b3 s.1 b m s.2=_
   unfold Ag
   simp only [zU, hs.al, aj (Nat.lt_irrefl _), ao]) (fun c i s hi hs=>by
   have Qq:=hs.rest i hi (Nat.lt_irrefl i)
   have hr:=hx.res i hi
   have hsp:=vd hl i
   obtain⟨a',p',h1,h2⟩:=vEe (a0:=s.1.set i ((s.1.getD i ad).1,((s.1.getD i ad).2.1,wB (s.1.getD i ad).2.2 (zR (gR i) l)))) (p0:=s.2) hk bP hn hx hl hi b0 b1 b2 b3 b m ⟨by rw[List.length_set];exact hs.al,fun x ig sH=>by
     rw[wL,if_neg (fun e=>by omega)];exact hs.done x ig sH,by
     rw[wL,if_pos ⟨rfl,by rw[hs.al];exact hi⟩,Qq]
     show _=((a.getD i ad).1-0,_,_)
     rw[Int.sub_zero],fun x ig sH=>by
     rw[wL,if_neg (fun e=>by omega)];exact hs.rest x ig (by omega),hs.pl,hs.pr,fun x ig y E3=>by
     rw[hs.cell x ig y E3]
     by_cases h:x<i
     ·rw[if_pos h,if_pos (.inl h)]
     ·rw[if_neg h,if_neg (by omega)]⟩
   refine⟨(a',p'),?_,?_⟩
   ·show Ag k _ l i b0 b1 b2 b3 s.1 b m s.2=_
    unfold Ag
    have hK:=yBv k (s.1.getD i ad).1 (s.1.getD i ad).2.1 (s.1.getD i ad).2.2 (zR (gR i) l) (by rw[Qq];omega) (by rw[Qq];omega) hsp.1
    simp only[qG,zU,aB,hs.al,ai hi,av,vDe bP hl,ak]
    rw[hK]
    simp only[ak]
    rw[h1]
    simp only[ak,qO hi (show n<9223372036854775808 by omega)]
   ·refine⟨h2.al,fun x ig sH=>?_,fun x ig sH=>h2.rest x ig (by omega),h2.pl,h2.pr,fun x ig y E3=>?_⟩
    ·by_cases h:x<i
     ·exact h2.done x ig h
     ·have:x=i:=by omega
      subst this
      rw[h2.here,qVh hl.1 x ig]
      rw[Int.sub_neg]
    ·rw[h2.cell x ig y E3]
     by_cases h:x<i+1
     ·rw[if_pos (by omega),if_pos h]
     ·rw[if_neg (by omega),if_neg h]) (s:=(a,p)) hk ⟨hx.al,fun x _ h=>absurd h (Nat.not_lt_zero x),fun x _ _=>rfl,hx.pl,hx.pr,fun x _ y _=>by rw[if_neg (Nat.not_lt_zero x)]⟩
 exact⟨s.1,s.2,h1,h2.al,fun i hi=>h2.done i hi hi,h2.pl,h2.pr,fun i hi j hj=>by rw[h2.cell i hi j hj,if_pos hi]⟩
def oz (a:List qN)(b:List (List Int))(m:List Int)(p:List (List Int))(l:List zB)(r:List qN×List (List Int)×List Int×List (List Int)×Int):Prop:=
 (vS a.length l→∃a' p',sD a.length a p l a' p'∧r=(bif kM a' b m p' then(a',b,m,p',0) else(a,b,m,p,8)))∧(¬vS a.length l→r=(a,b,m,p,1))
theorem Jb {k:Nat}(hk:100<k){a:List qN}{b:List (List Int)}{m:List Int}{p:List (List Int)}{l:List zB}(h:wH a b m p)(hl:l.length≤80):∃r,nq k a b m p l=some r∧oz a b m p l r:=by
 unfold nq oz
 have e:decide (((l.length:Nat):Int)>64)=decide (¬l.length≤64):=by
  by_cases h:l.length≤64
  ·rw[aj (by omega),aj (by omega)]
  ·rw[ai (by omega),ai (by omega)]
 rw[e]
 by_cases cd:l.length≤64
 case neg=>
  rw[ai cd]
  exact⟨_,rfl,fun e=>absurd e.2 cd,fun _=>rfl⟩
 rw[aj (by omega),vB0 (by omega) (by omega)]
 simp only[ao,ak]
 cases hm:lH a.length l with
 |false=>
  refine⟨_,rfl,fun e=>?_,fun _=>rfl⟩
  rw[zt.2 e.1] at hm
  cases hm
 |true=>
  have aP:vS a.length l:=⟨zt.1 hm,cd⟩
  simp only[aY,ao,EO (show 10<k by omega) h.toSized,ak]
  obtain⟨a',p',h1,h2⟩:=vBf (b:=b) (m:=m) (show l.length<k by omega) h.nums aP a b m p
  rw[h1]
  simp only[ak,qV0 (show 10<k by omega)]
  cases hB:kM a' b m p' with
  |true=>exact⟨_,rfl,fun _=>⟨a',p',h2,by rw[hB];rfl⟩,fun e=>absurd aP e⟩
  |false=>exact⟨_,rfl,fun _=>⟨a',p',h2,by rw[hB];rfl⟩,fun e=>absurd aP e⟩
theorem vG1 {k:Nat}(hk:100<k){a:List qN}{b:List (List Int)}{m:List Int}{p:List (List Int)}{l:List zB}(h:wH a b m p)(hl:l.length≤80):∃r,vf k a b m p l=some r∧oz a b m p l r:=by
 unfold vf oz
 rw[yLj (by omega) (by omega)]
 simp only[ak]
 cases hm:lH a.length l with
 |false=>
  refine⟨_,rfl,fun e=>?_,fun _=>rfl⟩
  rw[zt.2 e.1] at hm
  cases hm
 |true=>
  by_cases cd:l.length≤64
  case neg=>
   rw[aj cd]
   exact⟨_,rfl,fun e=>absurd e.2 cd,fun _=>rfl⟩
  have aP:vS a.length l:=⟨zt.1 hm,cd⟩
  have h6:=h.n6
  rw[ai cd]
  simp only[Bool.and_true,aY,ao,EN (show 10<k by omega) h.toSized,ak]
  obtain⟨a',p',h1,h2⟩:=yZz (b:=b) (m:=m) (show a.length<k by omega) (show l.length<k by omega) (by omega) h.nums aP a b m p
  rw[h1]
  simp only[ak,vQp (show 10<k by omega)]
  cases hB:kM a' b m p' with
  |true=>exact⟨_,rfl,fun _=>⟨a',p',h2,by rw[hB];rfl⟩,fun e=>absurd aP e⟩
  |false=>exact⟨_,rfl,fun _=>⟨a',p',h2,by rw[hB];rfl⟩,fun e=>absurd aP e⟩
theorem oz.same {a:List qN}{b:List (List Int)}{m:List Int}{p:List (List Int)}{l:List zB}{r r':List qN×List (List Int)×List Int×List (List Int)×Int}(h:oz a b m p l r)(h':oz a b m p l r'):r=r':=by
 by_cases c:vS a.length l
 ·obtain⟨a1,p1,x,rfl⟩:=h.1 c
  obtain⟨a2,p2,y,rfl⟩:=h'.1 c
  obtain⟨rfl,rfl⟩:=x.same y
  rfl
 ·rw[h.2 c,h'.2 c]
theorem E4 {a:List qN}{b:List (List Int)}{m:List Int}{p:List (List Int)}{l:List zB}{r:List qN×List (List Int)×List Int×List (List Int)×Int}(hb:wH a b m p)(h:oz a b m p l r):
  qM (fun i=>(r.1.getD i ad).1) a.length=qM (fun i=>(a.getD i ad).1) a.length∧wH r.1 r.2.1 r.2.2.1 r.2.2.2.1∧(r.2.2.2.2=0∨(r.1=a∧r.2.1=b∧r.2.2.1=m∧r.2.2.2.1=p)):=by
 by_cases c:vS a.length l
 ·obtain⟨a',p',x,e⟩:=h.1 c
  cases hi:kM a' b m p' with
  |false=>
   rw[hi] at e
   subst e
   exact⟨rfl,hb,.inr ⟨rfl,rfl,rfl,rfl⟩⟩
  |true=>
   rw[hi] at e
   subst e
   refine⟨?_,IX.1 hi,.inl rfl⟩
   have e1:qM (fun i=>(a'.getD i ad).1) a.length=qM (fun i=>(a.getD i ad).1+zR (gB i) l) a.length:=lE fun j hj=>by rw[x.acct j hj]
   show qM (fun i=>(a'.getD i ad).1) a.length=_
   rw[e1,yy,IK]
   have e2:zR (fun p=>qM (fun j=>gB j p) a.length) l=zR (fun _=>(0:Int)) l:=IJ fun p hp=>by
    obtain⟨f0,f1,t0,t1,ne,a1,a2,c1,c3⟩:=c.1 p hp
    obtain⟨f,hf⟩:∃f:Nat,p.2.1=f:=⟨p.2.1.toNat,by omega⟩
    obtain⟨t,ht⟩:∃t:Nat,p.2.2.1=t:=⟨p.2.2.1.toNat,by omega⟩
    have g1:∀j,gB j p=(if j=t then p.2.2.2.1 else 0)+(if j=f then-p.2.2.2.1 else 0):=by
     intro j
     unfold gB
     rw[hf,ht]
     by_cases c:j=t<;>by_cases d:j=f<;>(repeat (first|rw[if_pos (by omega)]|rw[if_neg (by omega)]))<;>omega
    rw[lE fun j _=>g1 j,yy,uY,uY,if_pos (by omega),if_pos (by omega)]
    omega
   have e3:∀l:List zB,zR (fun _:zB=>(0:Int)) l=0:=by
    intro l
    induction l with
    |nil=>rfl
    |cons p l ih=>show 0+zR _ l=0;rw[ih];rfl
   rw[e2,e3,Int.add_zero]
 ·have e:=h.2 c
  subst e
  exact⟨rfl,hb,.inr ⟨rfl,rfl,rfl,rfl⟩⟩
theorem yZh {k n i:Nat}{p:List (List Int)}(hk:n<k)(hn:n≤100)(hi:i<n)(hp:p.length=n)(hr:(p.getD i []).length=n)(hb:∀j,-72057594037927936≤cell p i j∧cell p i j≤72057594037927936)(a:List qN)(b:List (List Int))(m:List Int):
  Jc k a b m p i=some (qM (cell p i) n):=by
 obtain ⟨s, h1, h2⟩ := vF (L := fun c j (s : Int) => Ah k c i s j a b m p) (N := n) (fun s => s) (fun j s => s = qM (cell p i) j) (fun c s hs=>by
   show Ai k _ i s n a b m p=_
   unfold Ai
   simp only [qG, zU, aB, hp, hr, ai hi, aj (Nat.lt_irrefl _), ao, av]) (fun c j s hj hs=>by
   refine⟨qM (cell p i) (j+1),?_,rfl⟩
   show Ai k _ i s j a b m p=_
   have h1:=sB hb j
   have h2:=hb j
   have h3:(j:Int)*72057594037927936≤100*72057594037927936:=by omega
   unfold Ai
   simp only[qG,qO hj (show n<9223372036854775808 by omega),zU,aB,hp,hr,ai hi,ai hj,av]
   show Ah k c i (zA (s+cell p i j)) _ a b m p=_
   rw[hs,zV (by omega) (by omega)]
   rfl) (s:=0) hk rfl
 unfold Jc
 rw[h1,h2]
 rfl
theorem Jd {a:List qN}{b:List (List Int)}{m:List Int}{p:List (List Int)}(hb:wH a b m p){i:Nat}(hi:i<a.length)(j:Nat):-72057594037927936≤cell p i j∧cell p i j≤72057594037927936:=by
 by_cases hj:j<a.length
 ·have:=hb.net i hi j hj
  simp only[gf,bN,bI] at this
  omega
 ·have:cell p i j=0:=by
   unfold cell
   rw[List.getD_eq_getElem?_getD,List.getElem?_eq_none]
   ·rfl
   ·rw[hb.pr i hi];omega
  omega
theorem Je {S X:Type}{L:Nat→Int→S→Option X}{N:Nat}(ok:Nat→Bool)(e:S→X)(b:X)(inv:Nat→S→Prop)(bK:∀n s,inv N s→L (n+1) (N:Int) s=some (e s))
  (aH:∀n i s,i<N→inv i s→(ok i=true→∃s',L (n+1) (i:Int) s=L n ((i+1:Nat):Int) s'∧inv (i+1) s')∧(ok i=false→L (n+1) (i:Int) s=some b)):
  ∀c i n s,i+c=N→c<n→inv i s→(qK ok c i=true∧∃s',L n (i:Int) s=some (e s')∧inv N s')∨(qK ok c i=false∧L n (i:Int) s=some b)
 |0,i,n,s,h,hn,hs=>by
  obtain⟨n,rfl⟩:∃m,n=m+1:=⟨n-1,by omega⟩
  have:i=N:=by omega
  subst this
  exact .inl ⟨rfl,s,bK n s hs,hs⟩
 |c+1,i,n,s,h,hn,hs=>by
  obtain⟨n,rfl⟩:∃m,n=m+1:=⟨n-1,by omega⟩
  obtain⟨h1,h2⟩:=aH n i s (by omega) hs
  unfold qK
  cases ho:ok i with
  |true=>
   obtain⟨s',h3,h4⟩:=h1 ho
   rw[h3]
   simp only[Bool.true_and]
   exact Je ok e b inv bK aH c (i+1) n s' (by omega) (by omega) h4
  |false=>exact .inr ⟨rfl,h2 ho⟩
def dS (l:List zB)(i j:Nat):Int:=zR (gS i j) l-zR (gS j i) l
def oA (b p:List (List Int))(l:List zB)(i j:Nat):Bool:= !(decide (zR (gS i j) l>0)&&(!decide (cell b i j= -1)&&decide (cell p i j+dS l i j>cell b i j)))
def wQ (a:List qN)(b:List (List Int))(m:List Int)(p:List (List Int))(l:List zB)(i:Nat):Bool:=
 !decide (zR (gN i) l + zR (gR i) l = 0) && (!qK (oA b p l i) a.length 0 || (decide ((a.getD i ad).1+(a.getD i ad).2.1+zR (gB i) l<0)||
  ((decide (zR (gN i) l>0)&&decide ((a.getD i ad).1+(a.getD i ad).2.1+zR (gB i) l<wB (a.getD i ad).2.2 (zR (gR i) l)))||
   (!decide (m.getD i 0= -1)&&decide (qM (cell p i) a.length-zR (gB i) l>m.getD i 0)))))
theorem Aj {n:Nat}{l:List zB}(hl:vS n l)(i j:Nat):-70368744177664≤dS l i j∧dS l i j≤70368744177664:=by
 have h1:=pL hl i j
 have h2:=pL hl j i
 unfold dS
 omega
theorem vTb {k:Nat}{a:List qN}{b:List (List Int)}{m:List Int}{p:List (List Int)}{l:List zB}(hk:100<k)(hb:wH a b m p)(hl:vS a.length l){i:Nat}(hi:i<a.length)(x y n0 dI:Int)
  (DN:-6917529027641081856≤n0∧n0≤6917529027641081856) (np:-576460752303423488≤dI∧dI≤576460752303423488):
  oB k k l i x y n0 dI 0 a b m p=some (bif qK (oA b p l i) a.length 0 then .inl ((i:Int),x,y,n0-qM (dS l i) a.length,dI+qM (dS l i) a.length,a,b,m,p) else .inr true):=by
 have h6:=hb.n6
 have bP:l.length<k:=by have:=hl.2;omega
 have := Je (L := fun c j (s : Int × Int) => oB k c l i x y s.1 s.2 j a b m p) (N := a.length) (oA b p l i) (fun s => .inl ((i : Int), x, y, s.1, s.2, a, b, m, p)) (.inr true) (fun j s => s = (n0 - qM (dS l i) j, dI + qM (dS l i) j)) (fun c s hs=>by
   show Ak k _ l i x y s.1 s.2 a.length a b m p=_
   unfold Ak
   simp only [zU, aj (Nat.lt_irrefl _), ao]) (fun c j s hj hs=>by
   have HV:=sB (fun j=>Aj hl i j) j
   have I9:=Aj hl i j
   have hj1:(j:Int)*70368744177664≤6*70368744177664:=by omega
   have np:=hb.nums.net i hi j hj
   have e1:oB k (c+1) l i x y s.1 s.2 j a b m p=bif oA b p l i j then oB k c l i x y (n0-qM (dS l i) (j+1)) (dI+qM (dS l i) (j+1)) ((j+1:Nat):Int) a b m p else some (.inr true):=by
    show Ak k _ l i x y s.1 s.2 j a b m p=_
    unfold Ak
    simp only[qG,qO hj (show a.length<9223372036854775808 by omega),zU,aB,ai hi,ai hj,av,Qo bP hl,ak,hb.bl,hb.br i hi,hb.pl,hb.pr i hi]
    have ed:zA (zR (gS i j) l-zR (gS j i) l)=dS l i j:=zV (by have:=I9.1;unfold dS at this;omega) (by have:=I9.2;unfold dS at this;omega)
    rw[ed]
    have e2:zA (s.1-dS l i j)=n0-qM (dS l i) (j+1):=by
     rw[hs]
     show zA (n0-qM (dS l i) j-dS l i j)=n0-(qM (dS l i) j+dS l i j)
     rw[zV (by omega) (by omega)]
     omega
    have e3:zA (s.2+dS l i j)=dI+qM (dS l i) (j+1):=by
     rw[hs]
     show zA (dI+qM (dS l i) j+dS l i j)=dI+(qM (dS l i) j+dS l i j)
     rw[zV (by omega) (by omega)]
     omega
    rw[e2,e3]
    show(bif decide (zR (gS i j) l>0) then(bif !decide (cell b i j= -1) then(bif decide (zA (cell p i j+dS l i j)>cell b i j) then _ else _) else _) else _)=_
    rw[zV (x:=cell p i j+dS l i j) (by omega) (by omega)]
    unfold oA
    cases decide (zR (gS i j) l>0)<;>cases decide (cell b i j= -1)<;>cases decide (cell p i j+dS l i j>cell b i j)<;>rfl
   refine⟨fun ho=>⟨_,?_,rfl⟩,fun ho=>?_⟩
   ·rw[e1,ho];rfl
   ·rw [e1, ho]; rfl) a.length 0 k (n0, dI) (by omega) (by omega) (by
    show(n0,dI)=(n0-0,dI+0)
    rw[Int.sub_zero,Int.add_zero])
 rcases this with⟨h1,s,h2,h3⟩|⟨h1,h2⟩
 ·have E5:oB k k l i x y n0 dI 0 a b m p=_:=h2
  rw[E5,h1,h3]
  rfl
 ·have E5:oB k k l i x y n0 dI 0 a b m p=_:=h2
  rw[E5,h1]
  rfl
theorem yOo {n:Nat}{l:List zB}(hl:∀p∈l,yL n p)(i:Nat)(hi:i<n):qM (dS l i) n= -zR (gB i) l:=qVh hl i hi
theorem yA0 {k:Nat}{a:List qN}{b:List (List Int)}{m:List Int}{p:List (List Int)}{l:List zB}(hk:100<k)(hb:wH a b m p)(hl:vS a.length l){i:Nat}(hi:i<a.length):Jf k a b m p l i=some (wQ a b m p l i):=by
 have h6:=hb.n6
 have bP:l.length<k:=by have:=hl.2;omega
 have hN:=yCi hl i
 have hR:=vd hl i
 have hB:=I4 hl i
 have hx:=hb.acct i hi
 simp only[jJ,bN,bI] at hx
 have nr:-4611686018427387904<(a.getD i ad).1∧(a.getD i ad).1<4611686018427387904∧0≤(a.getD i ad).2.1∧(a.getD i ad).2.1≤2305843009213693952∧0≤(a.getD i ad).2.2∧(a.getD i ad).2.2≤2305843009213693952:=⟨hx.1,hx.2.1,hx.2.2.1,hx.2.2.2.1,hx.2.2.2.2.1,hx.2.2.2.2.2⟩
 have np:=sB (Jd hb hi) a.length
 have DQ:(a.length:Int)*72057594037927936≤6*72057594037927936:=by omega
 unfold Jf
 rw[qVc bP hl]
 simp only[ak]
 rw[zV (x:=zR (gN i) l+zR (gR i) l) (by omega) (by omega)]
 unfold wQ
 cases hz:decide (zR (gN i) l+zR (gR i) l=0) with
 |true=>rfl
 |false=>
  rw[qG,ai hi]
  simp only[av,ao,aB]
  rw[yZh (by omega) (by omega) hi hb.pl (hb.pr i hi) (Jd hb hi)]
  simp only[ak]
  rw[zV (x:=(a.getD i (0,(0,0))).1+(a.getD i (0,(0,0))).2.1) (by omega) (by omega)]
  rw[vTb hk hb hl hi _ _ _ _ (by omega) (by omega),yOo hl.1 i hi]
  simp only[Int.sub_neg]
  cases qK (oA b p l i) a.length 0 with
  |false=>rfl
  |true=>
   have hK:=yBv k (a.getD i ad).1 (a.getD i ad).2.1 (a.getD i ad).2.2 (zR (gR i) l) (by omega) (by omega) hR.1
   simp only[av,ak,dX,aY,Bool.true_and,Bool.false_or,qG,aB,ai hi,hb.ml]
   show(bif decide ((a.getD i ad).1+(a.getD i ad).2.1+zR (gB i) l<0) then _ else bif decide (zR (gN i) l>0) then(Ac k (a.getD i ad).1 (a.getD i ad).2.1 (a.getD i ad).2.2 (zR (gR i) l)).bind _ else _)=_
   rw[hK]
   simp only[ak]
   have en:qM (cell p i) a.length+-zR (gB i) l=qM (cell p i) a.length-zR (gB i) l:=by omega
   rw[en]
   cases decide ((a.getD i ad).1+(a.getD i ad).2.1+zR (gB i) l<0)<;>cases decide (zR (gN i) l>0)<;>cases decide ((a.getD i ad).1+(a.getD i ad).2.1+zR (gB i) l<wB (a.getD i ad).2.2 (zR (gR i) l))<;>cases decide (m.getD i 0= -1)<;>rfl
theorem vHe {k:Nat}{a:List qN}{b:List (List Int)}{m:List Int}{p:List (List Int)}{l:List zB}(hk:100<k)(hb:wH a b m p)(hl:vS a.length l):∃r,pM k a b m p l=some r∧(r=[]↔qK (fun i=> !wQ a b m p l i) a.length 0=true):=by
 have h6:=hb.n6
 obtain ⟨r, h1, h2⟩ := vF (L := fun c i (r : List Int) => pN k c l i a b m p r) (N := a.length) (fun r => r) (fun i r => (r = [] ↔ ∀ j, j < i → wQ a b m p l j = false) ∧ r.length ≤ i) (fun c r hr=>by
   show oC k _ l a.length a b m p r=_
   unfold oC
   simp only [zU, aj (Nat.lt_irrefl _), ao]) (fun c i r hi hr=>by
   have aQ:zW (r.length+1) 8=true:=yE (by omega) (by omega)
   have e:pN k (c+1) l i a b m p r=pN k c l ((i+1:Nat):Int) a b m p (bif wQ a b m p l i then r++[(i:Int)] else r):=by
    show oC k _ l i a b m p r=_
    unfold oC
    simp only[qO hi (show a.length<9223372036854775808 by omega),zU,ai hi,av,yA0 hk hb hl hi,ak,aQ]
    cases wQ a b m p l i<;>rfl
   refine⟨_,e,?_⟩
   cases hs:wQ a b m p l i with
   |true=>
    refine⟨⟨fun h=>?_,fun h=>?_⟩,by simp only[av,List.length_append,List.length_cons,List.length_nil];omega⟩
    ·simp at h
    ·rw[h i (Nat.lt_succ_self i)] at hs;cases hs
   |false=>
    refine⟨⟨fun h j hj=>?_,fun h=>?_⟩,by simp only[ao];omega⟩
    ·by_cases c:j=i
     ·subst c;exact hs
     ·exact hr.1.1 h j (by omega)
    ·exact hr.1.2 fun j hj=>h j (by omega)) (s:=[]) (show a.length<k by omega) ⟨⟨fun _ j hj=>absurd hj (Nat.not_lt_zero j),fun _=>rfl⟩,Nat.le_refl 0⟩
 unfold pM
 rw[h1]
 refine⟨r,rfl,h2.1.trans ?_⟩
 rw[gG]
 exact⟨fun h j hj=>by rw[h j hj];rfl,fun h j hj=>by have:=h j hj;simpa using this⟩
def E6 (a:List qN)(b:List (List Int))(m:List Int)(p:List (List Int))(l:List zB):Bool:=(lH a.length l&&decide (l.length≤64))&&qK (fun i=> !wQ a b m p l i) a.length 0
theorem vH2 {k:Nat}{a:List qN}{b:List (List Int)}{m:List Int}{p:List (List Int)}{l:List zB}(hk:100<k)(hb:wH a b m p)(hl:l.length≤80):E7 k a b m p l=some (E6 a b m p l):=by
 unfold E7 E6
 rw[yLj (by omega) (by omega)]
 simp only[ak]
 cases hm:(lH a.length l&&decide (l.length≤64)) with
 |false=>rfl
 |true=>
  simp only[bN,bI] at hm
  obtain⟨r,h1,h2⟩:=vHe hk hb ⟨zt.1 hm.1,hm.2⟩
  simp only[av,h1,ak,Bool.true_and]
  congr 1
  cases hr:qK (fun i=> !wQ a b m p l i) a.length 0 with
  |true=>
   have:=h2.2 hr
   subst this
   rfl
  |false=>
   apply aj
   intro h
   have:r=[]:=List.length_eq_zero_iff.1 (by omega)
   rw[h2.1 this] at hr
   cases hr
theorem vQi {k n i:Nat}{p:List (List Int)}(hk:n<k)(hn:n≤100)(hi:i<n)(hp:p.length=n)(hr:(p.getD i []).length=n)(hb:∀j,-72057594037927936≤cell p i j∧cell p i j≤72057594037927936)(a:List qN)(b:List (List Int))(m:List Int):
  Jg k a b m p i=some (qM (cell p i) n):=by
 obtain ⟨s, h1, h2⟩ := vF (L := fun c j (s : Int) => Al k c s (p.getD i []) n j) (N := n) (fun s => s) (fun j s => s = qM (cell p i) j) (fun c s hs=>by
   show Am k _ s (p.getD i []) n n=_
   unfold Am
   simp only [zU, aj (Nat.lt_irrefl _), ao]) (fun c j s hj hs=>by
   refine⟨qM (cell p i) (j+1),?_,rfl⟩
   show Am k _ s (p.getD i []) n j=_
   have h1:=sB hb j
   have h2:=hb j
   have h3:(j:Int)*72057594037927936≤100*72057594037927936:=by omega
   unfold Am
   simp only[qG,qO hj (show n<9223372036854775808 by omega),zU,aB,hr,ai hj,av]
   show Al k c (zA (s+cell p i j)) _ _ _=_
   rw[hs,zV (by omega) (by omega)]
   rfl) (s:=0) hk rfl
 unfold Jg
 simp only[qG,hp,ai hi,av,aB,hr]
 rw[h1,h2]
 rfl
theorem yRc (k:Nat){n:Nat}(hn:n≤6):E8 k n=some true:=by
 unfold E8
 rw[ai (by omega),ai (by omega)];rfl
theorem qVt {α:Type}(v z:α)(n i:Nat)(hi:i<n):(List.replicate i v++List.replicate (n-i) z).set i v=List.replicate (i+1) v++List.replicate (n-(i+1)) z:=by
 have e:List.replicate (n-i) z=z::List.replicate (n-(i+1)) z:=by
  rw[show n-i=(n-(i+1))+1 by omega];rfl
 rw[List.set_append_right _ _ (by simp),List.length_replicate,Nat.sub_self,e]
 simp[List.replicate_succ']
theorem yVd {n b:Nat}(hn:n≤1000)(hb:b≤1000):pB (n:Int) (n:Int) b=true:=by
 unfold pB
 have h:(n:Int)*(b:Int)≤1000000:=by
  have:n*b≤1000*1000:=Nat.mul_le_mul hn hb
  have e:((n*b:Nat):Int)=(n:Int)*(b:Int):=by simp
  omega
 simp only[bN,bI]
 omega
theorem yE6 {k n:Nat}(hk:n<k)(hn:n≤6)(v:Int):vg k n v=some (List.replicate n v):=by
 unfold vg
 rw[yRc k hn]
 obtain ⟨s, h1, h2⟩ := vF (L := fun c i (s : List Int) => E9 k c v n i s) (N := n) (fun s => s) (fun i s => s = List.replicate i v ++ List.replicate (n - i) 0) (fun c s hs=>by
   show An k _ v n n s=_
   unfold An
   simp only [zU, aj (Nat.lt_irrefl _), ao]) (fun c i s hi hs=>by
   refine⟨_,?_,rfl⟩
   show An k _ v n i s=_
   have hl:s.length=n:=by rw[hs];simp;omega
   unfold An
   simp only[qG,qO hi (show n<9223372036854775808 by omega),zU,aB,ai hi,av,hl]
   rw[hs,qVt v 0 n i hi]) (s:=List.replicate n 0) hk (by simp)
 simp only[ak,aY,ao,yVd (n:=n) (b:=8) (by omega) (by omega),av,aB,List.length_replicate]
 rw[h1,h2]
 simp
theorem vG9 {k n:Nat}(hk:n<k)(hn:n≤6)(v:Int):Ao k n v=some (List.replicate n (List.replicate n v)):=by
 unfold Ao
 rw[yRc k hn]
 obtain ⟨s, h1, h2⟩ := vF (L := fun c i (s : List (List Int)) => Fa k c n v n i s) (N := n) (fun s => s) (fun i s => s = List.replicate i (List.replicate n v) ++ List.replicate (n - i) []) (fun c s hs=>by
   show Ap k _ n v n n s=_
   unfold Ap
   simp only [zU, aj (Nat.lt_irrefl _), ao]) (fun c i s hi hs=>by
   refine⟨_,?_,rfl⟩
   show Ap k _ n v n i s=_
   have hl:s.length=n:=by rw[hs];simp;omega
   unfold Ap
   simp only[qG,qO hi (show n<9223372036854775808 by omega),zU,aB,ai hi,av,hl,yE6 hk hn,ak]
   rw[hs,qVt (List.replicate n v) [] n i hi]) (s:=List.replicate n []) hk (by simp)
 simp only[ak,aY,ao,yVd (n:=n) (b:=24) (by omega) (by omega),av,aB,List.length_replicate]
 rw[h1,h2]
 simp
def sI (a:List qN)(b:List (List Int))(m:List Int)(p:List (List Int))(l:List zB):List Int:=((List.range a.length).filter fun i=>wQ a b m p l i).map fun(i:Nat)=>(i:Int)
structure Jh (n:Nat) (l:List zB) (r2 r3:List Int) (m4:List (List Int)):Prop where
 l2:r2.length=n
 l3:r3.length=n
 l4:m4.length=n
 r4:∀i,i<n→(m4.getD i []).length=n
 more:∀i,i<n→r2.getD i 0=zR (gB i) l
 spent:∀i,i<n→r3.getD i 0=zR (gR i) l
 sent:∀i,i<n→∀j,j<n→cell m4 i j=dS l i j
def Fc (p:zB)(r:List Int):List Int:=
 let y0:=r.set p.2.1.toNat (zA (r.getD p.2.1.toNat 0-p.2.2.2.1))
 y0.set p.2.2.1.toNat (zA (y0.getD p.2.2.1.toNat 0+p.2.2.2.1))
def Fe (p:zB)(r:List Int):List Int:=bif !decide (p.2.2.2.2.1=3) then r.set p.2.1.toNat (zA (r.getD p.2.1.toNat 0+p.2.2.2.1)) else r
theorem vMn {n:Nat}{p:zB}(h:yL n p){r:List Int}(hr:r.length=n){i:Nat}(hi:i<n)(hb:∀i,i<n→-4611826755915743232<r.getD i 0∧r.getD i 0<4611826755915743232):(Fc p r).getD i 0=r.getD i 0+gB i p:=by
 obtain⟨f0,f1,t0,t1,ne,a1,a2,c1,c3⟩:=h
 obtain⟨f,hf⟩:∃f:Nat,p.2.1=f:=⟨p.2.1.toNat,by omega⟩
 obtain⟨t,ht⟩:∃t:Nat,p.2.2.1=t:=⟨p.2.2.1.toNat,by omega⟩
 have EZ:f≠t:=by omega
 have gg:f<n:=by omega
 have ft:t<n:=by omega
 unfold Fc gB
 simp only[hf,ht,aB]
 have b1:=hb f gg
 have b2:=hb t ft
 have key:∀x,(r.set f (zA (r.getD f 0-p.2.2.2.1))).getD x 0=if f=x then zA (r.getD f 0-p.2.2.2.1) else r.getD x 0:=fun x=>by
  rw[wL]
  by_cases e:f=x
  ·rw[if_pos ⟨e,by omega⟩,if_pos e]
  ·rw[if_neg (fun h=>e h.1),if_neg e]
 rw[wL,List.length_set,key t,if_neg EZ,key i]
 by_cases h1:t=i
 ·subst h1
  rw[if_pos ⟨rfl,by omega⟩,if_pos rfl,if_neg (by omega),zV (by omega) (by omega)]
  omega
 ·rw[if_neg (fun e=>h1 e.1),if_neg (c:=((t:Int)=i)) (by omega)]
  by_cases h2:f=i
  ·subst h2
   rw[if_pos rfl,if_pos rfl,zV (by omega) (by omega)]
   omega
  ·rw[if_neg h2,if_neg (by omega)]
   omega
theorem vNq {n:Nat}{p:zB}(h:yL n p){r:List Int}(hr:r.length=n){i:Nat}(hi:i<n)(hb:∀i,i<n→-4611826755915743232<r.getD i 0∧r.getD i 0<4611826755915743232):(Fe p r).getD i 0=r.getD i 0+gR i p:=by
 obtain⟨f0,f1,t0,t1,ne,a1,a2,c1,c3⟩:=h
 obtain⟨f,hf⟩:∃f:Nat,p.2.1=f:=⟨p.2.1.toNat,by omega⟩
 have gg:f<n:=by omega
 have b1:=hb f gg
 unfold Fe gR
 simp only[hf,aB]
 by_cases hc:p.2.2.2.2.1=3
 ·rw[ai hc,if_neg (fun e=>e.2 hc)]
  simp
 ·rw[aj hc]
  simp only[dX,av]
  rw[wL]
  by_cases h2:f=i
  ·subst h2
   rw[if_pos ⟨rfl,by omega⟩,if_pos ⟨rfl,hc⟩,zV (by omega) (by omega)]
  ·rw[if_neg (fun e=>h2 e.1),if_neg (fun e=>h2 (by omega))]
   omega
theorem vQ4 (l:List zB)(p:zB)(i j:Nat):dS (l++[p]) i j=dS l i j+gS i j p-gS j i p:=by
 unfold dS
 rw[j9,j9]
 dsimp only[zR]
 omega
theorem Ff {α:Type}(n i:Nat)(v d:α)(h:i<n):(List.replicate n v).getD i d=v:=by
 simp[List.getD,h]
theorem vDu {k n:Nat}{l:List zB}(hk:100<k)(hn:n≤6)(hl:vS n l):∃r2 r3 m4,Ji k n l=some (r2,r3,m4)∧Jh n l r2 r3 m4:=by
 have lI:=hl.2
 have := vF (L := fun c i (s : List Int × List Int × List (List Int)) => Aq k c l l.length i s.1 s.2.1 s.2.2) (N := l.length) (fun s => s) (fun i s => Jh n (l.take i) s.1 s.2.1 s.2.2) (fun c s hs=>by
   show Ar k _ l l.length l.length s.1 s.2.1 s.2.2=_
   unfold Ar
   simp only [zU, aj (Nat.lt_irrefl _), ao]) (fun c i s hi hs=>by
   have bU:yL n (l.getD i pd):=hl.1 _ (wS hi)
   refine⟨(Fc (l.getD i pd) s.1,Fe (l.getD i pd) s.2.1,sE (l.getD i pd) s.2.2),?_,?_⟩
   ·show Ar k _ l l.length i s.1 s.2.1 s.2.2=_
    unfold Ar Fc Fe sE
    simp only[qG,qO hi (show l.length<9223372036854775808 by omega),zU,aB,ai hi,av]
    obtain⟨f0,f1,t0,t1,ne,a1,a2,c1,c3⟩:=bU
    obtain⟨f,hf⟩:∃f:Nat,(l.getD i pd).2.1=f:=⟨(l.getD i pd).2.1.toNat,by omega⟩
    obtain⟨t,ht⟩:∃t:Nat,(l.getD i pd).2.2.1=t:=⟨(l.getD i pd).2.2.1.toNat,by omega⟩
    have gg:f<n:=by omega
    have ft:t<n:=by omega
    have r1:=EY (x:=zA ((s.2.2.getD f []).getD t 0+(l.getD i pd).2.2.2.1)) (t:=t) hs.l4 hs.r4 gg
    simp only[hf,ht,aB,qG,hs.l2,hs.l3,hs.l4,List.length_set,hs.r4 f gg,r1 t ft,ai gg,ai ft,av]
    cases decide ((l.getD i pd).2.2.2.2.1=3)<;>rfl
   ·have aP:=hl.take i
    have hp := yLf bU hs.l4 hs.r4 (fun i' bM j' hY=>by
     rw[hs.sent i' bM j' hY]
     have:=Aj aP i' j'
     omega)
    have hbM:∀i',i'<n→-4611826755915743232<s.1.getD i' 0∧s.1.getD i' 0<4611826755915743232:=fun i' bM=>by
     rw[hs.more i' bM];have:=I4 aP i';omega
    have hbS:∀i',i'<n→-4611826755915743232<s.2.1.getD i' 0∧s.2.1.getD i' 0<4611826755915743232:=fun i' bM=>by
     rw[hs.spent i' bM];have:=vd aP i';omega
    refine⟨by unfold Fc;simp[hs.l2],by unfold Fe;cases decide ((l.getD i pd).2.2.2.2.1=3)<;>simp[hs.l3],hp.1,hp.2.1,fun i' bM=>?_,fun i' bM=>?_,fun i' bM j' hY=>?_⟩
    ·rw[vMn bU hs.l2 bM hbM,hs.more i' bM,←ie l i pd hi,j9]
     dsimp only[zR]
     omega
    ·rw[vNq bU hs.l3 bM hbS,hs.spent i' bM,←ie l i pd hi,j9]
     dsimp only[zR]
     omega
    ·rw[hp.2.2 i' bM j' hY,hs.sent i' bM j' hY,←ie l i pd hi,vQ4]) (n:=k) (s:=(List.replicate n 0,List.replicate n 0,List.replicate n (List.replicate n 0))) (by omega) ⟨by simp,by simp,by simp,fun i hi=>by rw[Ff n i _ _ hi];simp,fun i hi=>by rw[Ff n i _ _ hi];rfl,fun i hi=>by rw[Ff n i _ _ hi];rfl,fun i hi j hj=>by
    unfold cell
    rw[Ff n i _ _ hi,Ff n j _ _ hj]
    rfl⟩
 obtain⟨s,h1,h2⟩:=this
 rw[List.take_of_length_le (Nat.le_refl _)] at h2
 refine⟨s.1,s.2.1,s.2.2,?_,h2⟩
 unfold Ji
 rw[yE6 (by omega) hn,vG9 (by omega) hn]
 simp only[ak]
 have cP:Aq k k l l.length 0 (List.replicate n 0) (List.replicate n 0) (List.replicate n (List.replicate n 0))=some s:=h1
 rw[cP]
 rfl
theorem vQr {k:Nat}{l:List zB}(hk:l.length<k)(hl:l.length<9223372036854775808)(i:Int):Jj k l i=some (!qK (fun x=> !decide ((l.getD x pd).2.1=i)) l.length 0):=by
 obtain ⟨x, h1, h2⟩ := sy (L := fun c x => Fg k c l l.length x i) (N := l.length) (fun x => decide ((l.getD x pd).2.1 = i)) (fun c=>by
   show As k _ l l.length l.length i=_
   unfold As
   simp only [zU, aj (Nat.lt_irrefl _), ao]) (fun c x hx=>by
   show As k _ l l.length x i=_
   unfold As Qr
   simp only[qG,qO hx hl,zU,aB,ai hx,av,ak]) hk
 unfold Jj Qs
 rw[h1]
 rw[←h2]
 cases x<;>rfl
theorem yJw {n:Nat}{l:List zB}(hl:∀p∈l,yL n p)(i:Nat):qK (fun x=> !decide ((l.getD x pd).2.1=i)) l.length 0=decide (zR (gN i) l+zR (gR i) l=0):=by
 have hN:=sA (g:=gN i) (l:=l) fun p hp=>(I7 (hl p hp) i).1
 have hR:=sA (g:=gR i) (l:=l) fun p hp=>(I3 (hl p hp) i).1
 have e:zR (gN i) l+zR (gR i) l=zR (fun p:zB=>if p.2.1=(i:Int) then p.2.2.2.1 else 0) l:=by
  rw[←yUi]
  refine IJ fun p hp=>?_
  unfold gN gR
  by_cases h1:p.2.1=i<;>by_cases h2:p.2.2.2.2.1=3<;>simp[h1,h2]
 rw[e]
 have h:∀(l:List zB),(∀p∈l,yL n p)→((∀p∈l,¬p.2.1=i)↔zR (fun p:zB=>if p.2.1=(i:Int) then p.2.2.2.1 else 0) l=0):=by
  intro l
  induction l with
  |nil=>intro _;simp[zR]
  |cons q l ih=>
   intro hm
   have ih:=ih fun p hp=>hm p (List.mem_cons_of_mem _ hp)
   have hq:=hm q (List.mem_cons_self ..)
   have h0:0≤zR (fun p:zB=>if p.2.1=i then p.2.2.2.1 else 0) l:=sA fun p hp=>by
    have:=(hm p (List.mem_cons_of_mem _ hp)).a1
    by_cases c:p.2.1=i
    ·rw[if_pos c];omega
    ·rw[if_neg c];exact Int.le_refl 0
   unfold zR
   by_cases c:q.2.1=i
   ·rw[if_pos c]
    have:=hq.a1
    exact⟨fun h=>absurd c (h q (List.mem_cons_self ..)),fun h=>by omega⟩
   ·rw[if_neg c,Int.zero_add,←ih]
    exact⟨fun h p hp=>h p (List.mem_cons_of_mem _ hp),fun h p hp=>by
     rcases List.mem_cons.1 hp with rfl|hp
     ·exact c
     ·exact h p hp⟩
 have bh:(∀p∈l,¬p.2.1=i)↔qK (fun x=> !decide ((l.getD x pd).2.1=i)) l.length 0=true:=by
  rw[gG]
  constructor
  ·intro h j hj
   simpa using h _ (wS hj)
  ·intro h p hp
   obtain⟨j,hj,rfl⟩:=List.getElem_of_mem hp
   have:=h j hj
   simpa[List.getD,hj] using this
 have:=bh.symm.trans (h l hl)
 cases hc:qK (fun x=> !decide ((l.getD x pd).2.1=i)) l.length 0 with
 |true=>rw[ai (this.1 hc)]
 |false=>
  rw[aj]
  intro h'
  rw[this.2 h'] at hc;cases hc
def vh (n At:Int):Bool:= !decide (At= -1)&&decide (n>At)
theorem yRg (k:Nat)(n At:Int):Au k n At=some (vh n At):=by
 unfold Au vh
 cases decide (At= -1)<;>rfl
theorem vQb (k:Nat)(b c r s:Int)(h:-9223372036854775808≤r-s)(h':r<9223372036854775808)(hs:0≤s):sF k b c r s=some (wB r s):=by
 unfold sF wB sm
 rw[zV h (by omega),ao]
 by_cases c:s≥r
 ·rw[if_pos c]
  by_cases e:r-s=0
  ·rw[e];rfl
  ·rw[ai (show(0:Int)>r-s by omega)];rfl
 ·rw[if_neg c,aj (show¬(0:Int)>r-s by omega)];rfl
def vi (b p:List (List Int))(l:List zB)(i:Nat)(short:Bool)(q:zB):Bool:=
 decide (q.2.1=i)&&((decide (q.2.2.2.2.1=3)&&short)||vh (cell p i q.2.2.1.toNat+dS l i q.2.2.1.toNat) (cell b i q.2.2.1.toNat))
theorem vKe {k:Nat}{a:List qN}{b:List (List Int)}{m:List Int}{p:List (List Int)}{l:List zB}(hk:100<k)(hb:wH a b m p)(hl:vS a.length l){r2 r3:List Int}{m4:List (List Int)}(hm:Jh a.length l r2 r3 m4){i:Nat}(hi:i<a.length)(bal cr res n0:Int)(iI:0≤res∧res≤2305843009213693952):
  Jk k l i bal cr res r2 r3 m4 n0 a b m p=some (!qK (fun x=> !vi b p l i (decide (n0<wB res (zR (gR i) l))) (l.getD x pd)) l.length 0):=by
 have h6:=hb.n6
 have lI:=hl.2
 have hR:=vd hl i
 obtain ⟨x, h1, h2⟩ := sy (L := fun c x => Fh k c l l.length x i bal cr res r2 r3 m4 n0 a b m p) (N := l.length) (fun x => vi b p l i (decide (n0 < wB res (zR (gR i) l))) (l.getD x pd)) (fun c=>by
   show Av k _ l l.length l.length i bal cr res r2 r3 m4 n0 a b m p=_
   unfold Av
   simp only [zU, aj (Nat.lt_irrefl _), ao]) (fun c x hx=>by
   show Av k _ l l.length x i bal cr res r2 r3 m4 n0 a b m p=_
   have bU:yL a.length (l.getD x pd):=hl.1 _ (wS hx)
   unfold Av
   simp only[qG,qO hx (show l.length<9223372036854775808 by omega),zU,aB,ai hx,av]
   generalize l.getD x (0,(0,(0,(0,(0,(0,0))))))=q at bU⊢
   obtain⟨id,f,t,am,cl,st,ti⟩:=q
   obtain⟨f0,f1,t0,t1,ne,a1,a2,c1,c3⟩:=bU
   dsimp only at f0 f1 t0 t1 ne a1 a2 c1 c3⊢
   obtain⟨t,rfl⟩:∃y:Nat,t=y:=⟨t.toNat,by omega⟩
   have ft:t<a.length:=by omega
   unfold Qt vi
   dsimp only
   cases hf:decide (f=(i:Int)) with
   |false=>simp
   |true=>
    have e1:(r3.getD i 0)=zR (gR i) l:=hm.spent i hi
    have e2:(m4.getD i []).getD t 0=dS l i t:=hm.sent i hi t ft
    have np:=hb.nums.net i hi t ft
    have hd:=Aj hl i t
    have e3:zA ((p.getD i []).getD t 0+dS l i t)=cell p i t+dS l i t:=zV (by show _≤cell p i t+dS l i t;omega) (by show cell p i t+dS l i t<_;omega)
    simp only[aY,ao,qG,hm.l3,hm.l4,hm.r4 i hi,hb.pl,hb.pr i hi,hb.bl,hb.br i hi,ai hi,ai ft,av,aB,e1,e2,e3,vQb k bal cr res (zR (gR i) l) (by omega) (by omega) hR.1,ak,yRg,Bool.true_and]
    show _=bif (decide (cl=3)&&decide (n0<wB res (zR (gR i) l)))||vh (cell p i t+dS l i t) (cell b i t) then _ else _
    cases decide (cl=3)<;>cases decide (n0<wB res (zR (gR i) l))<;>rfl) (n:=k) (by omega)
 unfold Jk Qu
 rw[h1,←h2]
 cases x<;>rfl
theorem Qv {α:Type}{g:α→Int}:∀{l:List α},(∀p∈l,0≤g p)→(0<zR g l↔∃p∈l,0<g p)
 |[],_=>by simp[zR]
 |q::l,h=>by
  have ih:=Qv (g:=g) (l:=l) fun p hp=>h p (List.mem_cons_of_mem _ hp)
  have h0:=sA (g:=g) (l:=l) fun p hp=>h p (List.mem_cons_of_mem _ hp)
  have hq:=h q (List.mem_cons_self ..)
  unfold zR
  constructor
  ·intro hs
   by_cases c:0<g q
   ·exact⟨q,List.mem_cons_self ..,c⟩
   ·obtain⟨p,hp,hg⟩:=ih.1 (by omega)
    exact⟨p,List.mem_cons_of_mem _ hp,hg⟩
  ·rintro⟨p,hp,hg⟩
   rcases List.mem_cons.1 hp with rfl|hp
   ·omega
   ·have:=ih.2 ⟨p,hp,hg⟩;omega
theorem Jl {N:Nat}{p:Nat→Bool}:qK p N 0=false↔∃j,j<N∧p j=false:=by
 constructor
 ·intro h
  apply Classical.byContradiction
  intro hn
  have:qK p N 0=true:=gG.2 fun j hj=>by
   cases hp:p j with
   |true=>rfl
   |false=>exact absurd ⟨j,hj,hp⟩ hn
  rw[this] at h;cases h
 ·rintro⟨j,hj,hp⟩
  cases h:qK p N 0 with
  |false=>rfl
  |true=>rw[gG.1 h j hj] at hp;cases hp
theorem vP7 {a:List qN}{b:List (List Int)}{p:List (List Int)}{l:List zB}(hl:vS a.length l){i:Nat}(hi:i<a.length)(short:Bool):
  (!qK (fun x=> !vi b p l i short (l.getD x pd)) l.length 0)=(!qK (oA b p l i) a.length 0||(decide (zR (gN i) l>0)&&short)):=by
 have hN:=Qv (g:=gN i) (l:=l) fun p hp=>(I7 (hl.1 p hp) i).1
 have hS:=fun j=>Qv (g:=gS i j) (l:=l) fun p hp=>(I2 (hl.1 p hp) i j).1
 rw[Bool.eq_iff_iff]
 simp only[Bool.not_eq_true',Bool.or_eq_true,bN,bI]
 rw[Jl,Jl]
 constructor
 ·rintro⟨x,hx,hb⟩
  have bU:=hl.1 _ (wS (d:=pd) hx)
  have cM:=wS (d:=pd) hx
  generalize l.getD x pd=q at hb bU cM
  simp only[vi,Bool.not_eq_false',bN,Bool.or_eq_true,bI] at hb
  obtain⟨hf,hb⟩:=hb
  rcases hb with⟨hc,hs⟩|ho
  ·refine .inr ⟨hN.2 ⟨q,cM,?_⟩,hs⟩
   unfold gN
   rw[if_pos ⟨hf,hc⟩]
   have:=bU.a1;omega
  ·have h1:=bU.t0;have h2:=bU.t1
   refine .inl ⟨q.2.2.1.toNat,by omega,?_⟩
   unfold oA
   have nj:zR (gS i q.2.2.1.toNat) l>0:=(hS _).2 ⟨q,cM,by
    unfold gS
    rw[if_pos ⟨hf,by omega⟩]
    have:=bU.a1;omega⟩
   rw[ai nj]
   unfold vh at ho
   rw[Bool.true_and,ho]
   rfl
 ·rintro(⟨j,hj,hb⟩|⟨hp,hs⟩)
  ·simp only[oA,Bool.not_eq_false',bN,bI] at hb
   obtain⟨nj,ho⟩:=hb
   obtain⟨q,hq,hg⟩:=(hS j).1 nj
   obtain⟨x,hx,rfl⟩:=List.getElem_of_mem hq
   refine⟨x,hx,?_⟩
   have e:l.getD x pd=l[x]:=by simp[List.getD,hx]
   rw[e]
   unfold gS at hg
   by_cases c:l[x].2.1=(i:Int)∧l[x].2.2.1=(j:Int)
   ·unfold vi vh
    rw[ai c.1,c.2,aB]
    simp[ho]
   ·rw[if_neg c] at hg;omega
  ·obtain⟨q,hq,hg⟩:=hN.1 hp
   obtain⟨x,hx,rfl⟩:=List.getElem_of_mem hq
   refine⟨x,hx,?_⟩
   have e:l.getD x pd=l[x]:=by simp[List.getD,hx]
   rw[e]
   unfold gN at hg
   by_cases c:l[x].2.1=(i:Int)∧l[x].2.2.2.2.1=3
   ·unfold vi
    rw[ai c.1,ai c.2,hs]
    simp
   ·rw[if_neg c] at hg;omega
theorem vGr {k:Nat}{a:List qN}{b:List (List Int)}{m:List Int}{p:List (List Int)}{l:List zB}(hk:100<k)(hb:wH a b m p)(hl:vS a.length l){r2 r3:List Int}{m4:List (List Int)}(hm:Jh a.length l r2 r3 m4){i:Nat}(hi:i<a.length)(hs:decide (zR (gN i) l+zR (gR i) l=0)=false):
  Jm k r2 r3 m4 a b m p i l=some (wQ a b m p l i):=by
 have h6:=hb.n6
 have lI:=hl.2
 have hB:=I4 hl i
 have hx:=hb.acct i hi
 simp only[jJ,bN,bI] at hx
 have nr:-4611686018427387904<(a.getD i ad).1∧(a.getD i ad).1<4611686018427387904∧0≤(a.getD i ad).2.1∧(a.getD i ad).2.1≤2305843009213693952∧0≤(a.getD i ad).2.2∧(a.getD i ad).2.2≤2305843009213693952:=⟨hx.1,hx.2.1,hx.2.2.1,hx.2.2.2.1,hx.2.2.2.2.1,hx.2.2.2.2.2⟩
 have np:=sB (Jd hb hi) a.length
 have DQ:(a.length:Int)*72057594037927936≤6*72057594037927936:=by omega
 have e1:r2.getD i 0=zR (gB i) l:=hm.more i hi
 unfold Jm
 simp only[qG,ai hi,av,aB,hm.l2,hm.l4,e1,hm.r4 i hi]
 rw[vQi (by omega) (by omega) hi hb.pl (hb.pr i hi) (Jd hb hi)]
 show(bif decide (zA (zA ((a.getD i ad).1+(a.getD i ad).2.1)+zR (gB i) l)<0) then _ else _)=_
 rw[zV (x:=(a.getD i ad).1+(a.getD i ad).2.1) (by omega) (by omega),zV (x:=(a.getD i ad).1+(a.getD i ad).2.1+zR (gB i) l) (by omega) (by omega)]
 unfold wQ
 rw[hs]
 cases hn:decide ((a.getD i ad).1+(a.getD i ad).2.1+zR (gB i) l<0) with
 |true=>simp
 |false=>
  obtain ⟨s, q1, q2⟩ := vF (L := fun c j (s : Int) => vj k c l s (m4.getD i []) a.length j r2 r3 m4 a b m p i (a.getD i ad).1 (a.getD i ad).2.1 (a.getD i ad).2.2 ((a.getD i ad).1 + (a.getD i ad).2.1 + zR (gB i) l)) (N := a.length) (fun s => (l, s, r2, r3, m4, a, b, m, p, (i : Int), (a.getD i ad).1, (a.getD i ad).2.1, (a.getD i ad).2.2, (a.getD i ad).1 + (a.getD i ad).2.1 + zR (gB i) l)) (fun j s => s = qM (cell p i) a.length + qM (dS l i) j) (fun c s hs=>by
    show Aw k _ l s (m4.getD i []) a.length a.length r2 r3 m4 a b m p i (a.getD i ad).1 (a.getD i ad).2.1 (a.getD i ad).2.2 ((a.getD i ad).1+(a.getD i ad).2.1+zR (gB i) l)=_
    unfold Aw
    simp only [zU, aj (Nat.lt_irrefl _), ao]) (fun c j s hj hs=>by
    refine⟨qM (cell p i) a.length+qM (dS l i) (j+1),?_,rfl⟩
    show Aw k _ l s (m4.getD i []) a.length j r2 r3 m4 a b m p i (a.getD i ad).1 (a.getD i ad).2.1 (a.getD i ad).2.2 ((a.getD i ad).1+(a.getD i ad).2.1+zR (gB i) l)=_
    have e2:(m4.getD i []).getD j 0=dS l i j:=hm.sent i hi j hj
    have HV:=sB (fun j=>Aj hl i j) j
    have I9:=Aj hl i j
    have hj1:(j:Int)*70368744177664≤6*70368744177664:=by omega
    unfold Aw
    simp only[qG,qO hj (show a.length<9223372036854775808 by omega),zU,aB,hm.r4 i hi,ai hj,av,e2]
    rw[hs,zV (x:=qM (cell p i) a.length+qM (dS l i) j+dS l i j) (by omega) (by omega),Int.add_assoc]
    rfl) (n:=k) (s:=qM (cell p i) a.length) (by omega) (by show _=_+0;omega)
  have q1':vj k k l (qM (cell p i) a.length) (m4.getD i []) a.length 0 r2 r3 m4 a b m p i (a.getD i ad).1 (a.getD i ad).2.1 (a.getD i ad).2.2 ((a.getD i ad).1+(a.getD i ad).2.1+zR (gB i) l)=_:=q1
  simp only[ao,ak]
  rw[show vj k k l (qM (cell p i) a.length) (m4.getD i []) a.length 0 r2 r3 m4 a b m p i (a.getD i (0,(0,0))).1 (a.getD i (0,(0,0))).2.1 (a.getD i (0,(0,0))).2.2 ((a.getD i ad).1+(a.getD i ad).2.1+zR (gB i) l)=_ from q1']
  simp only[ak,qG,hb.ml,ai hi,av,aB,yRg]
  rw[vKe hk hb hl hm hi _ _ _ _ ⟨nr.2.2.2.2.1,nr.2.2.2.2.2⟩,vP7 hl hi,q2,yOo hl.1 i hi]
  have en:qM (cell p i) a.length+-zR (gB i) l=qM (cell p i) a.length-zR (gB i) l:=by omega
  rw[en]
  unfold vh
  simp only[ak,dX,Bool.true_and,Bool.false_or]
  cases qK (oA b p l i) a.length 0<;>cases decide (zR (gN i) l>0)<;>cases decide ((a.getD i ad).1+(a.getD i ad).2.1+zR (gB i) l<wB (a.getD i ad).2.2 (zR (gR i) l))<;>cases decide (m.getD i 0= -1)<;>cases decide (qM (cell p i) a.length-zR (gB i) l>m.getD i 0)<;>rfl
theorem yH0 (f:Nat→Bool)(i:Nat):((List.range (i+1)).filter f).map (fun(x:Nat)=>(x:Int))=(((List.range i).filter f).map fun(x:Nat)=>(x:Int))++(bif f i then[(i:Int)] else[]):=by
 rw[List.range_succ,List.filter_append,List.map_append]
 congr 1
 cases h:f i<;>simp[h]
theorem Qw {k:Nat}{a:List qN}{b:List (List Int)}{m:List Int}{p:List (List Int)}{l:List zB}(hk:100<k)(hb:wH a b m p)(hl:vS a.length l):vk k a b m p l=some (sI a b m p l):=by
 have h6:=hb.n6
 have lI:=hl.2
 obtain⟨r2,r3,m4,g1,hm⟩:=vDu hk h6 hl
 obtain ⟨r, h1, h2⟩ := vF (L := fun c i (r : List Int) => Ax k c l a.length i a b m p r2 r3 m4 r) (N := a.length) (fun r => r) (fun i r => r = ((List.range i).filter fun i => wQ a b m p l i).map fun (x : Nat) => (x : Int)) (fun c r hr=>by
   show Ay k _ l a.length a.length a b m p r2 r3 m4 r=_
   unfold Ay
   simp only [zU, aj (Nat.lt_irrefl _), ao]) (fun c i r hi hr=>by
   have hle:r.length≤i:=by
    rw[hr,List.length_map]
    have:=List.length_filter_le (fun i=>wQ a b m p l i) (List.range i)
    rw[List.length_range] at this
    exact this
   have aQ:zW (r.length+1) 8=true:=yE (by omega) (by omega)
   refine⟨_,?_,rfl⟩
   show Ay k _ l a.length i a b m p r2 r3 m4 r=_
   unfold Ay
   simp only[qO hi (show a.length<9223372036854775808 by omega),zU,ai hi,av,vQr (show l.length<k by omega) (by omega),ak,aQ]
   rw[yJw hl.1,yH0,←hr]
   cases hz:decide (zR (gN i) l+zR (gR i) l=0) with
   |true=>
    have:wQ a b m p l i=false:=by unfold wQ;rw[hz];rfl
    rw[this]
    simp
   |false=>
    rw[vGr hk hb hl hm hi hz]
    simp only[ak,dX,av]
    cases wQ a b m p l i<;>simp) (n:=k) (s:=[]) (by omega) rfl
 unfold vk
 rw[g1]
 simp only[ak]
 have cP:Ax k k l a.length 0 a b m p r2 r3 m4 []=some r:=h1
 rw[cP,h2]
 rfl
theorem yGd {k:Nat}{a:List qN}{b:List (List Int)}{m:List Int}{p:List (List Int)}{l:List zB}(hk:100<k)(hb:wH a b m p)(hl:vS a.length l):pM k a b m p l=some (sI a b m p l):=by
 have h6:=hb.n6
 obtain ⟨r, h1, h2⟩ := vF (L := fun c i (r : List Int) => pN k c l i a b m p r) (N := a.length) (fun r => r) (fun i r => r = ((List.range i).filter fun i => wQ a b m p l i).map fun (x : Nat) => (x : Int)) (fun c r hr=>by
   show oC k _ l a.length a b m p r=_
   unfold oC
   simp only [zU, aj (Nat.lt_irrefl _), ao]) (fun c i r hi hr=>by
   have hle:r.length≤i:=by
    rw[hr,List.length_map]
    have:=List.length_filter_le (fun i=>wQ a b m p l i) (List.range i)
    rw[List.length_range] at this
    exact this
   have aQ:zW (r.length+1) 8=true:=yE (by omega) (by omega)
   refine⟨_,?_,rfl⟩
   show oC k _ l i a b m p r=_
   unfold oC
   simp only[qO hi (show a.length<9223372036854775808 by omega),zU,ai hi,av,yA0 hk hb hl hi,ak,aQ]
   rw[yH0,←hr]
   cases wQ a b m p l i<;>simp) (s:=[]) (show a.length<k by omega) rfl
 unfold pM
 have cP:pN k k l 0 a b m p []=some r:=h1
 rw[cP,h2]
 rfl
theorem vRy {a:List qN}{b:List (List Int)}{m:List Int}{p:List (List Int)}{l:List zB}:decide (((sI a b m p l).length:Int)=0)=qK (fun i=> !wQ a b m p l i) a.length 0:=by
 unfold sI
 rw[List.length_map]
 cases h:qK (fun i=> !wQ a b m p l i) a.length 0 with
 |true=>
  rw[gG] at h
  apply ai
  have:(List.range a.length).filter (fun i=>wQ a b m p l i)=[]:=by
   rw[List.filter_eq_nil_iff]
   intro i hi
   have:=h i (by simpa using hi)
   simpa using this
  rw[this];rfl
 |false=>
  apply aj
  intro h0
  obtain⟨j,hj,hs⟩:=Jl.1 h
  have hm:j∈(List.range a.length).filter (fun i=>wQ a b m p l i):=by
   rw[List.mem_filter]
   exact⟨by simpa using hj,by simpa using hs⟩
  have:=List.length_pos_of_mem hm
  omega
theorem yXs {k:Nat}{l:List zB}(hk:l.length<k)(hl:l.length<9223372036854775808)(a:List qN)(b:List (List Int))(m:List Int)(p:List (List Int)):Jn k l a b m p=some (!lH a.length l):=by
 obtain ⟨x, h1, h2⟩ := sy (L := fun c i => Fi k c l l.length i a b m p) (N := l.length) (fun i => !lG a.length (l.getD i pd)) (fun c=>by
  show Az k _ l l.length l.length a b m p=_
  unfold Az
  simp only [zU, aj (Nat.lt_irrefl _), ao]) (fun c i hi=>by
  show Az k _ l l.length i a b m p=_
  unfold Az Qx
  simp only[qG,qO hi hl,zU,aB,ai hi,av,IZ,ak]) hk
 unfold Jn Qy
 rw[h1]
 simp only[Bool.not_not] at h2
 unfold lH
 rw[←h2]
 cases x<;>rfl
theorem vJ7 {k:Nat}{a:List qN}{b:List (List Int)}{m:List Int}{p:List (List Int)}{l:List zB}(hk:100<k)(hb:wH a b m p)(hl:l.length≤80):vl k a b m p l=some (E6 a b m p l):=by
 unfold vl E6
 have e:decide ((l.length:Int)≤64)=decide (l.length≤64):=by
  by_cases h:l.length≤64
  ·rw[ai h,ai (by omega)]
  ·rw[aj h,aj (by omega)]
 rw[e,yXs (by omega) (by omega)]
 cases cd:decide (l.length≤64) with
 |false=>simp
 |true=>
  cases hm:lH a.length l with
  |false=>rfl
  |true=>
   have hr:vS a.length l:=⟨zt.1 hm,II cd⟩
   simp only[av,ak,aY,dX,Qw hk hb hr,vRy,Bool.and_self,Bool.true_and]
def qS (l:List zB):Prop:=List.Pairwise (fun p q=>p.1≠q.1) l
theorem qS.filter {l:List zB}(h:qS l)(f:zB→Bool):qS (l.filter f):=List.Pairwise.filter f h
theorem vm {α:Type}(f:α→Bool)(l:List α)(i:Nat)(d:α)(h:i<l.length):(l.take (i+1)).filter f=(l.take i).filter f++(bif f (l.getD i d) then[l.getD i d] else[]):=by
 rw[←ie l i d h,List.filter_append]
 congr 1
theorem Fj {α X:Type}(d:α){l:List α}{L:Nat→Int→List α→Option X}(f:α→Bool)(e:List α→X)(bK:∀n s,L (n+1) (l.length:Int) s=some (e s))
  (aH:∀n i s,i<l.length→s.length≤i→L (n+1) (i:Int) s=L n ((i+1:Nat):Int) (bif f (l.getD i d) then s++[l.getD i d] else s)) {n:Nat} (hn:l.length<n):
  L n 0 []=some (e (l.filter f)):=by
 obtain ⟨s', h1, h2⟩ := vF (L := L) (N := l.length) e (fun i s => s = (l.take i).filter f) (fun n s _ => bK n s) (fun n i s hi hs=>by
  refine⟨_,aH n i s hi ?_,?_⟩
  ·subst hs
   have:=List.length_filter_le f (l.take i)
   rw[List.length_take] at this
   omega
  ·subst hs
   rw[vm f l i d hi]
   cases f (l.getD i d)<;>simp) (s:=[]) hn (by simp)
 rw[h1,h2,List.take_length]
def qW (l:List zB):Prop:=l.length≤1000
theorem kN {n:Nat}(h:n≤1000):zW (n+1) 56=true:=yE (by omega) (by omega)
def ij (t:Int)(p:zB):Bool:=bif decide (t≥p.2.2.2.2.2.1) then decide (t≤p.2.2.2.2.2.2) else false
theorem Qz {k:Nat}{l:List zB}(hk:l.length<k)(hl:qW l)(t:Int):AA k l t=some (l.filter (ij t)):=by
 unfold AA QA
 have := Fj pd (L := fun n i s => Fk k n l l.length i t s) (ij t) id (fun n s=>by
  show AB k _ l l.length l.length t s=_
  unfold AB
  simp only [zU, aj (Nat.lt_irrefl _), ao]; rfl) (fun n i s hi hs=>by
  show AB k _ l l.length i t s=_
  unfold AB QB QC
  unfold qW at hl
  simp only[qG,qO hi (show l.length<9223372036854775808 by omega),zU,aB,ai hi,av,kN (show s.length≤1000 by omega)]
  unfold ij
  cases h1:decide (t≥(l.getD i pd).2.2.2.2.2.1) with
  |false=>rfl
  |true=>
   cases h2:decide (t≤(l.getD i pd).2.2.2.2.2.2)<;>rfl) hk
 rw[this]
 rfl
theorem QD {k:Nat}{l:List zB}(hk:l.length<k)(hl:qW l)(t:Int):AE k l t=some (l.filter (ij t)):=by
 unfold AE
 have := Fj pd (L := fun n i s => Fl k n l t i s) (ij t) id (fun n s=>by
  show AF k _ l t l.length s=_
  unfold AF
  simp only [zU, aj (Nat.lt_irrefl _), ao]; rfl) (fun n i s hi hs=>by
  show AF k _ l t i s=_
  unfold AF QE
  unfold qW at hl
  simp only[qG,qO hi (show l.length<9223372036854775808 by omega),zU,aB,ai hi,av,kN (show s.length≤1000 by omega)]
  unfold ij
  cases h1:decide (t≥(l.getD i pd).2.2.2.2.2.1) with
  |false=>rfl
  |true=>
   cases h2:decide (t≤(l.getD i pd).2.2.2.2.2.2)<;>rfl) hk
 rw[this]
 rfl
def vV (f:Int)(p:zB):Bool:=decide (p.2.1=f)
theorem Jo {k:Nat}{l:List zB}(hk:l.length<k)(hl:qW l)(f:Int):pO k l f=some (l.filter (vV f)):=by
 unfold pO
 have := Fj pd (L := fun n i s => Fm k n l f i s) (vV f) id (fun n s=>by
  show AG k _ l f l.length s=_
  unfold AG
  simp only [zU, aj (Nat.lt_irrefl _), ao]; rfl) (fun n i s hi hs=>by
  show AG k _ l f i s=_
  unfold AG
  unfold qW at hl
  simp only[qG,qO hi (show l.length<9223372036854775808 by omega),zU,aB,ai hi,av,kN (show s.length≤1000 by omega)]
  unfold vV
  cases h1:decide ((l.getD i pd).2.1=f)<;>rfl) hk
 rw[this]
 rfl
def Jp (r:List zB)(p:zB):Bool:=qK (fun x=>decide (((r.filter (vV p.2.1)).getD x pd).2.2.2.2.1=3)) (r.filter (vV p.2.1)).length 0
def Jq (r:List zB)(p:zB):Bool:=decide ((r.filter (vV p.2.1)).getD 0 pd=p)
def oD (r:List zB)(p:zB):Bool:=Jq r p||Jp r p
def vM (l:List zB)(t:Int):List zB:=(l.filter (ij t)).filter (oD (l.filter (ij t)))
theorem eq7 (p q:zB):((decide (p.1=q.1))&&((decide (p.2.1=q.2.1))&&((decide (p.2.2.1=q.2.2.1))&&((decide (p.2.2.2.1=q.2.2.2.1))&&((decide (p.2.2.2.2.1=q.2.2.2.2.1))&&((decide (p.2.2.2.2.2.1=q.2.2.2.2.2.1))&&(decide (p.2.2.2.2.2.2=q.2.2.2.2.2.2))))))))=decide (p=q):=by
 obtain⟨a,b,c,d,e,f,g⟩:=p
 obtain⟨a',b',c',d',e',f',g'⟩:=q
 simp only[Prod.mk.injEq]
 rw[Bool.eq_iff_iff]
 simp only[bN,bI]
theorem vFs {k n:Nat}(s7:Int)(r0 r1 r2:List zB)(hk:r2.length<n)(hl:qW r2):
  AH k n s7 true 0 r0 r1 r2=some (s7,qK (fun x=>decide ((r2.getD x pd).2.2.2.2.1=3)) r2.length 0,r0,r1,r2):=by
 obtain ⟨s', h1, h2⟩ := vF (L := fun n i s => AH k n s7 s i r0 r1 r2) (N := r2.length) (fun s => (s7, s, r0, r1, r2)) (fun i s => s = qK (fun x => decide ((r2.getD x pd).2.2.2.2.1 = 3)) i 0) (fun n s _=>by
  show AI k _ s7 s r2.length r0 r1 r2=_
  unfold AI
  simp only [zU, aj (Nat.lt_irrefl _), ao]) (fun n i s hi hs=>by
  refine⟨_,?_,rfl⟩
  show AI k _ s7 s i r0 r1 r2=_
  unfold AI
  unfold qW at hl
  simp only[qG,qO hi (show r2.length<9223372036854775808 by omega),zU,aB,ai hi,av]
  have e:qK (fun x=>decide ((r2.getD x pd).2.2.2.2.1=3)) (i+1) 0=(s&&decide ((r2.getD i pd).2.2.2.2.1=3)):=by
   rw[Bool.eq_iff_iff,hs]
   simp only[gG,bN,bI]
   constructor
   ·intro h
    exact⟨fun j hj=>h j (by omega),h i (by omega)⟩
   ·rintro⟨h1,h2⟩ j hj
    by_cases c:j=i
    ·subst c;exact h2
    ·exact h1 j (by omega)
  rw[e]
  cases s<;>rfl) (s:=true) hk rfl
 exact h1.trans (by rw[h2])
theorem yE0 {k:Nat}{l:List zB}(hk:l.length<k)(hl:qW l)(t:Int):Fo k l t=some (vM l t):=by
 unfold Fo
 rw[QD hk hl]
 simp only[ak]
 unfold vM
 have eg:(l.filter (ij t)).length≤l.length:=List.length_filter_le _ _
 generalize l.filter (ij t)=r at eg
 unfold qW at hl
 have := Fj pd (L := fun n i s => Fp k n i r s) (l := r) (oD r) id (fun n s=>by
  show AJ k _ r.length r s=_
  unfold AJ
  simp only [zU, aj (Nat.lt_irrefl _), ao]; rfl) (fun n i s hi hs=>by
  show AJ k _ i r s=_
  unfold AJ
  have ja:(r.filter (vV (r.getD i pd).2.1)).length≤r.length:=List.length_filter_le _ _
  have mM:0<(r.filter (vV (r.getD i pd).2.1)).length:=by
   apply List.length_pos_of_mem (a:=r.getD i pd)
   rw[List.mem_filter]
   exact⟨wS hi,by simp[vV]⟩
  have Fq:=Jo (k:=k) (l:=r) (by omega) (show r.length≤1000 by omega) (r.getD i pd).2.1
  have b0:∀n:Nat,zE 0 n=decide (0<n):=fun n=>qG 0 n
  have e7:=eq7 ((r.filter (vV (r.getD i pd).2.1)).getD 0 pd) (r.getD i pd)
  simp only[pd] at Fq ja mM e7
  simp only[qG,qO hi (show r.length<9223372036854775808 by omega),zU,aB,ai hi,av,kN (show s.length≤1000 by omega)]
  rw[Fq]
  simp only[ak]
  rw[vFs ((i:Nat):Int) r s _ (by omega) (show _≤1000 by omega)]
  simp only[ak,b0,ai mM,ai hi,av,qG,aB,qO hi (show r.length<9223372036854775808 by omega),kN (show s.length≤1000 by omega)]
  rw[e7]
  unfold oD Jq Jp
  simp only[pd]
  generalize decide ((r.filter (vV (r.getD i (0,(0,(0,(0,(0,(0,0))))))).2.1)).getD 0 (0,(0,(0,(0,(0,(0,0))))))=r.getD i (0,(0,(0,(0,(0,(0,0)))))))=x
  generalize qK _ _ 0=y
  cases x<;>cases y<;>rfl) (show r.length<k by omega)
 have e:((0:Nat):Int)=0:=rfl
 rw[this]
 rfl
def vn (f:Int)(q:zB):Bool:=decide (q.2.1=f)&& !decide (q.2.2.2.2.1=3)
theorem vLi {k:Nat}{l:List zB}(hk:l.length<k)(hl:l.length<9223372036854775808)(i f t a c s e:Int):
  Jr k l i f t a c s e=some (!qK (fun x=> !vn f (l.getD x pd)) l.length 0):=by
 obtain ⟨x, h1, h2⟩ := sy (L := fun n i' => AK k n l l.length i' i f t a c s e) (N := l.length) (fun x => vn f (l.getD x pd)) (fun n=>by
  show AL k _ l l.length l.length i f t a c s e=_
  unfold AL
  simp only [zU, aj (Nat.lt_irrefl _), ao]) (fun n j hj=>by
  show AL k _ l l.length j i f t a c s e=_
  unfold AL QF
  simp only[qG,qO hj hl,zU,aB,ai hj,av]
  unfold vn
  cases h1:decide ((l.getD j pd).2.1=f) with
  |false=>rfl
  |true=>cases h2:decide ((l.getD j pd).2.2.2.2.1=3)<;>rfl) hk
 unfold Jr QG
 have cP:AK k k l l.length 0 i f t a c s e=some x:=h1
 rw[cP]
 rw[←h2]
 cases x<;>rfl
theorem vDw (r:List zB)(p:zB):Jp r p=true↔∀q∈r,q.2.1=p.2.1→q.2.2.2.2.1=3:=by
 unfold Jp
 rw[gG]
 constructor
 ·intro h q hq he
  have hm:q∈r.filter (vV p.2.1):=List.mem_filter.2 ⟨hq,by simp[vV,he]⟩
  obtain⟨i,hi,e⟩:=List.getElem_of_mem hm
  have:=h i hi
  rw[List.getD_eq_getElem?_getD,List.getElem?_eq_getElem hi,e] at this
  simpa using this
 ·intro h j hj
  have hm:=wS (d:=pd) hj
  rw[List.mem_filter] at hm
  have:=h _ hm.1 (by simpa[vV] using hm.2)
  simpa using this
theorem vEx (r:List zB)(f:Int):qK (fun x=> !vn f (r.getD x pd)) r.length 0=true↔∀q∈r,q.2.1=f→q.2.2.2.2.1=3:=by
 rw[gG]
 constructor
 ·intro h q hq he
  obtain⟨i,hi,e⟩:=List.getElem_of_mem hq
  have:=h i hi
  rw[List.getD_eq_getElem?_getD,List.getElem?_eq_getElem hi,e] at this
  simpa[vn,he] using this
 ·intro h j hj
  have:=h _ (wS (d:=pd) hj)
  simp only[vn,Bool.not_eq_true',Bool.and_eq_false_iff,Bool.not_eq_false',bI,decide_eq_false_iff_not]
  by_cases c:(r.getD j pd).2.1=f
  ·exact .inr (this c)
  ·exact .inl c
theorem qS.split {r:List zB}(h:qS r){i:Nat}(hi:i<r.length):∀q∈r.take i,q.1≠(r.getD i pd).1:=by
 intro q hq
 have e:r.take (i+1)=r.take i++[r.getD i pd]:=(ie r i pd hi).symm
 have hs:qS (r.take (i+1)):=List.Pairwise.sublist (List.take_sublist _ _) h
 rw[e] at hs
 exact(List.pairwise_append.1 hs).2.2 q hq _ (List.mem_singleton.2 rfl)
theorem Fs {α:Type}(r:List α)(i:Nat)(d:α)(hi:i<r.length):r=r.take i++r.getD i d::r.drop (i+1):=by
 conv=>lhs;rw[←List.take_append_drop i r]
 congr 1
 rw[List.drop_eq_getElem_cons hi]
 congr 1
 rw[List.getD_eq_getElem?_getD,List.getElem?_eq_getElem hi];rfl
theorem vFz {r:List zB}(h:qS r){i:Nat}(hi:i<r.length):Jq r (r.getD i pd)= !(r.take i).any (vV (r.getD i pd).2.1):=by
 unfold Jq
 have e:∀f,vV f (r.getD i pd)=true→r.filter (vV f)=(r.take i).filter (vV f)++r.getD i pd::(r.drop (i+1)).filter (vV f):=by
  intro f hf
  have:=congrArg (List.filter (vV f)) (Fs r i pd hi)
  rwa [List.filter_append,List.filter_cons_of_pos hf] at this
 have e:=e (r.getD i pd).2.1 (by simp[vV])
 rw[e]
 cases ha:(r.take i).any (vV (r.getD i pd).2.1) with
 |false=>
  have:(r.take i).filter (vV (r.getD i pd).2.1)=[]:=by
   rw[List.filter_eq_nil_iff]
   intro q hq hf
   rw[List.any_eq_false] at ha
   exact ha q hq hf
  rw[this]
  simp
 |true=>
  cases hf:(r.take i).filter (vV (r.getD i pd).2.1) with
  |nil=>
   rw[List.filter_eq_nil_iff] at hf
   rw[List.any_eq_true] at ha
   obtain⟨q,h1,h2⟩:=ha
   exact absurd h2 (hf q h1)
  |cons q l=>
   have hq:q∈r.take i:=(List.mem_filter.1 (hf▸List.mem_cons_self ..:q∈(r.take i).filter _)).1
   have:=h.split hi q hq
   have e2:(q::l++r.getD i pd::(r.drop (i+1)).filter (vV (r.getD i pd).2.1)).getD 0 pd=q:=rfl
   rw[e2]
   simp only[aY,decide_eq_false_iff_not]
   intro c
   exact this (by rw[c])
theorem vKu {r:List zB}(h:qS r){i:Nat}(hi:i<r.length):
  oD r (r.getD i pd)=(!(r.take i).any (vV (r.getD i pd).2.1)||(decide ((r.getD i pd).2.2.2.2.1=3)&&qK (fun x=> !vn (r.getD i pd).2.1 (r.getD x pd)) r.length 0)):=by
 unfold oD
 rw[vFz h hi]
 congr 1
 rw[Bool.eq_iff_iff,vDw,bN,vEx,bI]
 exact⟨fun g=>⟨g _ (wS hi) rfl,g⟩,fun g=>g.2⟩
theorem lookup_cons (f g:Int)(l:List (Int×Bool)):(List.lookup f ((g,true)::l)).getD false=(decide (f=g)||(List.lookup f l).getD false):=by
 rw[List.lookup_cons]
 by_cases c:f=g
 ·subst c;simp
 ·have:(f==g)=false:=by simpa using c
  rw[this]
  simp[c]
theorem yRv {k:Nat}{l:List zB}(hk:l.length<k)(hl:qW l)(hd:qS l)(t:Int):Ft k l t=some (vM l t):=by
 unfold Ft
 rw[Qz hk hl]
 simp only[ak]
 unfold vM
 have eg:(l.filter (ij t)).length≤l.length:=List.length_filter_le _ _
 have jy:=hd.filter (ij t)
 generalize l.filter (ij t)=r at eg jy
 unfold qW at hl
 unfold QH
 obtain ⟨s', h1, h2, h3⟩ := vF (L := fun n i (s : List (Int × Bool) × List zB) => AM k n r r.length i s.1 r s.2) (N := r.length) (fun s => (s.1, r, s.2)) (fun i s => (∀ f, (List.lookup f s.1).getD false = (r.take i).any (vV f)) ∧ s.2 = (r.take i).filter (oD r)) (fun n s _=>by
  show AN k _ r r.length r.length s.1 r s.2=_
  unfold AN
  simp only [zU, aj (Nat.lt_irrefl _), ao]) (fun n i s hi hs=>by
  refine⟨(((r.getD i pd).2.1,true)::s.1,bif oD r (r.getD i pd) then s.2++[r.getD i pd] else s.2),?_,?_,?_⟩
  ·show AN k _ r r.length i s.1 r s.2=_
   unfold AN QI
   have hlen:s.2.length≤i:=by
    rw[hs.2]
    have:=List.length_filter_le (oD r) (r.take i)
    rw[List.length_take] at this
    omega
   have hc:=vLi (k:=k) (l:=r) (by omega) (by omega) (r.getD i pd).1 (r.getD i pd).2.1 (r.getD i pd).2.2.1 (r.getD i pd).2.2.2.1 (r.getD i pd).2.2.2.2.1 (r.getD i pd).2.2.2.2.2.1 (r.getD i pd).2.2.2.2.2.2
   have yt:=hs.1 (r.getD i pd).2.1
   have hp:=vKu jy hi
   simp only[pd] at hc yt hp⊢
   simp only[qG,qO hi (show r.length<9223372036854775808 by omega),zU,aB,ai hi,av,kN (show s.2.length≤1000 by omega)]
   rw[hc,yt,hp]
   generalize (r.take i).any _=x
   generalize qK _ _ 0=y
   generalize decide ((r.getD i (0,(0,(0,(0,(0,(0,0))))))).2.2.2.2.1=3)=z
   cases x<;>cases y<;>cases z<;>rfl
  ·intro f
   rw[lookup_cons,hs.1 f,←ie r i pd hi,List.any_append,Bool.or_comm]
   congr 1
   simp only[List.any_cons,List.any_nil,Bool.or_false,vV]
   rw[Bool.eq_iff_iff]
   simp only[bI]
   exact eq_comm
  ·show(bif oD r (r.getD i pd) then s.2++[r.getD i pd] else s.2)=_
   rw[hs.2,vm _ _ _ pd hi]
   cases oD r (r.getD i pd)<;>simp) (s:=([],[])) (show r.length<k by omega) ⟨fun f=>by simp,by simp⟩
 have cP:AM k k r r.length 0 [] r []=some (s'.1,r,s'.2):=h1
 rw[cP,h3,List.take_length]
 rfl
def sJ (p:Nat→Bool):Nat→Nat→Option Nat
 |0,_=>none
 |c+1,i=>bif p i then some i else sJ p c (i+1)
def QJ:Option Nat→Unit⊕Int
 |some x=>.inr (x:Int)
 |none=>.inl ()
theorem QK {L:Nat→Int→Option (Unit⊕Int)}{N:Nat}(bad:Nat→Bool)(bK:∀n,L (n+1) (N:Int)=some (.inl ()))
  (aH:∀n i,i<N→L (n+1) (i:Int)=bif bad i then some (.inr (i:Int)) else L n ((i+1:Nat):Int)):
  ∀c i n,i+c=N→c<n→L n (i:Int)=some (QJ (sJ bad c i))
 |0,i,n,h,hn=>by
  obtain⟨n,rfl⟩:∃m,n=m+1:=⟨n-1,by omega⟩
  have:i=N:=by omega
  subst this
  exact bK n
 |c+1,i,n,h,hn=>by
  obtain⟨n,rfl⟩:∃m,n=m+1:=⟨n-1,by omega⟩
  rw[aH n i (by omega)]
  unfold sJ
  cases hb:bad i with
  |true=>rfl
  |false=>
   simp only[ao]
   exact QK bad bK aH c (i+1) n (by omega) (by omega)
theorem yM5 {p:Nat→Bool}:∀{c i x:Nat},sJ p c i=some x→i≤x∧x<i+c∧p x=true∧∀j,i≤j→j<x→p j=false
 |0,_,_,h=>by cases h
 |c+1,i,x,h=>by
  unfold sJ at h
  cases hp:p i with
  |true=>
   rw[hp] at h
   simp only[av,Option.some.injEq] at h
   subst h
   exact⟨Nat.le_refl _,by omega,hp,fun j h1 h2=>absurd h1 (by omega)⟩
  |false=>
   rw[hp] at h
   simp only[ao] at h
   obtain⟨h1,h2,h3,h4⟩:=yM5 h
   refine⟨by omega,by omega,h3,fun j j1 j2=>?_⟩
   by_cases e:j=i
   ·subst e;exact hp
   ·exact h4 j (by omega) j2
theorem qYr {p:Nat→Bool}:∀{c i:Nat},sJ p c i=none→∀j,i≤j→j<i+c→p j=false
 |0,_,_=>fun j h1 h2=>absurd h1 (by omega)
 |c+1,i,h=>by
  unfold sJ at h
  cases hp:p i with
  |true=>
   rw[hp] at h
   cases h
  |false=>
   rw[hp] at h
   simp only[ao] at h
   intro j j1 j2
   by_cases e:j=i
   ·subst e;exact hp
   ·exact qYr h j (by omega) (by omega)
def vN (l:List zB)(id:Int):Option Nat:=sJ (fun x=>decide ((l.getD x pd).1=id)) l.length 0
def iK (l:List zB)(id:Int):Int:=match vN l id with|some x=>(x:Int)|none=>-1
theorem iL {l:List zB}{id:Int}{x:Nat}(h:vN l id=some x):x<l.length∧(l.getD x pd).1=id:=by
 obtain⟨_,h2,h3,_⟩:=yM5 h
 exact⟨by omega,by simpa using h3⟩
theorem yZr {l:List zB}{id:Int}(h:vN l id=none):∀p∈l,p.1≠id:=by
 intro p hp e
 obtain⟨i,hi,e'⟩:=List.getElem_of_mem hp
 have:=qYr h i (by omega) (by omega)
 rw[List.getD_eq_getElem?_getD,List.getElem?_eq_getElem hi,e'] at this
 simp[e] at this
theorem Js {l:List zB}{p:zB}(h:p∈l):∃x,vN l p.1=some x:=by
 cases e:vN l p.1 with
 |some x=>exact⟨x,rfl⟩
 |none=>exact absurd rfl (yZr e p h)
theorem Jt {k:Nat}{l:List zB}(hk:l.length<k)(hl:l.length<9223372036854775808)(id:Int):kO k l id=some (iK l id):=by
 have := QK (L := fun n i => AO k n l id i) (N := l.length) (fun x => decide ((l.getD x pd).1 = id)) (fun n=>by
  show AP k _ l id l.length=_
  unfold AP
  simp only [zU, aj (Nat.lt_irrefl _), ao]) (fun n j hj=>by
  show AP k _ l id j=_
  unfold AP
  simp only[qG,qO hj hl,zU,aB,ai hj,av,pd]) l.length 0 k (by omega) hk
 have h1:AO k k l id 0=some (QJ (vN l id)):=this
 unfold kO iK
 rw[h1]
 cases vN l id<;>rfl
theorem AQ {k:Nat}{l:List zB}(hk:l.length<k)(hl:l.length<9223372036854775808)(id:Int):mo k l id=some (iK l id):=by
 have := QK (L := fun n i => AR k n l l.length i id) (N := l.length) (fun x => decide ((l.getD x pd).1 = id)) (fun n=>by
  show AT k _ l l.length l.length id=_
  unfold AT
  simp only [zU, aj (Nat.lt_irrefl _), ao]) (fun n j hj=>by
  show AT k _ l l.length j id=_
  unfold AT QL
  simp only[qG,qO hj hl,zU,aB,ai hj,av]
  rfl) l.length 0 k (by omega) hk
 have h1:AR k k l l.length 0 id=some (QJ (vN l id)):=this
 unfold mo QM iK
 rw[h1]
 cases vN l id<;>rfl
def yC (l:List zB)(x:Nat):List zB:=l.take x++l.drop (x+1)
theorem kP {l:List zB}{x:Nat}(h:x<l.length):(yC l x).length=l.length-1:=by
 unfold yC
 rw[List.length_append,List.length_take,List.length_drop]
 omega
theorem pP (l:List zB)(x:Nat):List.Sublist (yC l x) l:=by
 unfold yC
 conv=>rhs;rw[←List.take_append_drop x l]
 exact List.Sublist.append (List.Sublist.refl _) (List.drop_sublist_drop_left l (by omega))
theorem qS.cut {l:List zB}(h:qS l)(x:Nat):qS (yC l x):=List.Pairwise.sublist (pP l x) h
theorem yVh (k:Nat){l:List zB}{x:Nat}(hx:x<l.length)(hl:qW l):Fu k l x ((x+1:Nat):Int)=some (yC l x):=by
 unfold Fu
 unfold qW at hl
 have c1:(decide ((0:Int)≤(x:Int)))=true:=by simp
 have c2:decide ((x:Int)≤((x+1:Nat):Int))=true:=ai (by omega)
 have c3:decide (((x+1:Nat):Int)≤(l.length:Int))=true:=ai (by omega)
 have c4:decide ((l.length:Int)≤(l.length:Int))=true:=by simp
 have c5:decide ((x:Int)=((x+1:Nat):Int))=false:=aj (by omega)
 have c6:decide ((x:Int)≤(l.length:Int))=true:=ai (by omega)
 have c7:decide ((0:Int)≤((x+1:Nat):Int))=true:=ai (by omega)
 have c8:Nat.ble (x-0) (0+(x+1))=true:=Nat.ble_eq_true_of_le (by omega)
 simp only[aB,c1,c2,c3,c4,c5,c6,c7,c8,Bool.and_true,av,ao]
 have e0:x-0+(l.length-(x+1))=l.length-1:=by omega
 have e1:List.take (x-0) l++yB l (0+(x+1)) (l.length-(x+1))=yC l x:=by
  unfold yB yC
  rw[Nat.sub_zero,Nat.zero_add]
  congr 1
  rw[List.take_of_length_le]
  rw[List.length_drop]
  exact Nat.le_refl _
 have e2:(yB (yC l x++List.drop (l.length-1) l) 0 (l.length-1))=yC l x:=by
  unfold yB
  rw[List.drop_zero,List.take_append_of_le_length (by rw[kP hx];exact Nat.le_refl _),List.take_of_length_le (by rw[kP hx];exact Nat.le_refl _)]
 have e3:(yC l x++List.drop (l.length-1) l).length=l.length:=by
  rw[List.length_append,List.length_drop,kP hx];omega
 have c9:decide ((0:Int)≤((yC l x).length:Int))=true:=by simp
 have Ju:decide (((yC l x).length:Int)≤(l.length:Int))=true:=ai (by rw[kP hx];omega)
 have vp:decide ((l.length:Int)≤((l.length-0:Nat):Int))=true:=by simp
 have e4:List.take (0+(yC l x).length) (yC l x++List.drop (l.length-1) l)=yC l x:=by
  rw[Nat.zero_add,List.take_append_of_le_length (Nat.le_refl _),List.take_of_length_le (Nat.le_refl _)]
 simp only[e0,e1,e2,e3,c9,Ju,vp,e4,Bool.and_true,av,Option.some.injEq]
 rw[List.append_assoc,List.take_append_of_le_length (by rw[kP hx];exact Nat.le_refl _),List.take_of_length_le (by rw[kP hx];exact Nat.le_refl _)]
def gh (l:List zB)(id:Int):List zB×Int×Int×Int×Int×Int×Int×Int×Int:=match vN l id with
 |some x=>(yC l x,(l.getD x pd).1,(l.getD x pd).2.1,(l.getD x pd).2.2.1,(l.getD x pd).2.2.2.1,(l.getD x pd).2.2.2.2.1,(l.getD x pd).2.2.2.2.2.1,(l.getD x pd).2.2.2.2.2.2,0)
 |none=>(l,0,0,0,0,0,0,0,4)
theorem vq {k:Nat}{l:List zB}(hk:l.length<k)(hl:qW l)(id:Int):nu k l id=some (gh l id):=by
 unfold qW at hl
 unfold nu
 rw[AQ hk (by omega)]
 unfold iK gh
 cases hp:vN l id with
 |none=>rfl
 |some x=>
  have hx:=(iL hp).1
  have e1:decide ((x:Int)<0)=false:=aj (by omega)
  have e2:sK k l=some l:=by
   unfold sK
   rw[yE (by omega) (by omega)]
   rfl
  simp only[ak,e1,ao,e2,qO hx (show l.length<9223372036854775808 by omega),yVh k hx hl,qG,ai hx,av,aB]
def wM (q p:zB):Bool:=decide (q.2.1<p.2.1)||(decide (q.2.1=p.2.1)&&decide (q.2.2.2.2.1≤p.2.2.2.2.1))
def gH (q p:zB):Bool:=decide (q.2.1<p.2.1)||(decide (q.2.1=p.2.1)&&decide (q.2.2.2.2.1<p.2.2.2.2.1))
theorem vQ0 (n:Nat)(x y:Int):Jv (n+3) [x,y]=some (if x=0 then y else x):=by
 have key:∀n:Nat,AU (n+3) (n+3) 0 [x,y] 2 0=bif !decide (x=0) then some (.inr x) else bif !decide (y=0) then some (.inr y) else some (.inl 0):=fun n=>rfl
 unfold Jv
 show(AU (n+3) (n+3) 0 [x,y] 2 0).bind _=_
 rw[key]
 by_cases h:x=0
 ·rw[ai h,if_pos h]
  by_cases h2:y=0
  ·rw[ai h2,h2];rfl
  ·rw[aj h2];rfl
 ·rw[aj h,if_neg h];rfl
theorem vNt (k:Nat)(a b:Int):Fv k a b=some (if a<b then-1 else if a>b then 1 else 0):=by
 unfold Fv Jw
 have e:∀x:Int,decide (x=x)=true:=fun x=>ai rfl
 simp only[e,aY,ak,ao]
 by_cases h:a<b
 ·rw[ai h,if_pos h];rfl
 ·rw[aj h,if_neg h]
  by_cases h2:a>b
  ·rw[ai h2,if_pos h2];rfl
  ·rw[aj h2,if_neg h2];rfl
theorem QN {k:Nat}(hk:3≤k)(q p:zB):∃x,AV k q.1 q.2.1 q.2.2.1 q.2.2.2.1 q.2.2.2.2.1 q.2.2.2.2.2.1 q.2.2.2.2.2.2 p.1 p.2.1 p.2.2.1 p.2.2.2.1 p.2.2.2.2.1 p.2.2.2.2.2.1 p.2.2.2.2.2.2=some x∧decide (x≤0)=wM q p∧decide (x<0)=gH q p:=by
 obtain⟨n,rfl⟩:∃n,k=n+3:=⟨k-3,by omega⟩
 unfold AV
 simp only[vNt,ak,vQ0]
 refine⟨_,rfl,?_,?_⟩
 ·unfold wM
  rcases Int.lt_trichotomy q.2.1 p.2.1 with h|h|h
  ·simp[h]
  ·rcases Int.lt_trichotomy q.2.2.2.2.1 p.2.2.2.2.1 with g|g|g
   ·simp[h,g,Int.le_of_lt g]
   ·simp[h,g]
   ·have g1:¬q.2.2.2.2.1<p.2.2.2.2.1:=by omega
    have g2:¬q.2.2.2.2.1≤p.2.2.2.2.1:=by omega
    simp[h,g1,g2,g]
  ·have h1:¬q.2.1<p.2.1:=by omega
   have h2:¬q.2.1=p.2.1:=by omega
   simp[h1,h2,h]
 ·unfold gH
  rcases Int.lt_trichotomy q.2.1 p.2.1 with h|h|h
  ·simp[h]
  ·rcases Int.lt_trichotomy q.2.2.2.2.1 p.2.2.2.2.1 with g|g|g
   ·simp[h,g]
   ·simp[h,g]
   ·have g1:¬q.2.2.2.2.1<p.2.2.2.2.1:=by omega
    simp[h,g1,g]
  ·have h1:¬q.2.1<p.2.1:=by omega
   have h2:¬q.2.1=p.2.1:=by omega
   simp[h1,h2,h]
def Fw (ok:Nat→Bool):Nat→Nat→Nat
 |0,i=>i
 |c+1,i=>bif ok i then Fw ok c (i+1) else i
theorem AW {X:Type}{L:Nat→Int→Option X}{N:Nat}(ok:Nat→Bool)(e:Nat→X)(bK:∀n,L (n+1) (N:Int)=some (e N))
  (aH:∀n i,i<N→L (n+1) (i:Int)=bif ok i then L n ((i+1:Nat):Int) else some (e i)):∀c i n,i+c=N→c<n→L n (i:Int)=some (e (Fw ok c i))
 |0,i,n,h,hn=>by
  obtain⟨n,rfl⟩:∃m,n=m+1:=⟨n-1,by omega⟩
  have:i=N:=by omega
  subst this
  exact bK n
 |c+1,i,n,h,hn=>by
  obtain⟨n,rfl⟩:∃m,n=m+1:=⟨n-1,by omega⟩
  rw[aH n i (by omega)]
  unfold Fw
  cases ok i with
  |false=>rfl
  |true=>exact AW ok e bK aH c (i+1) n (by omega) (by omega)
theorem AY {α:Type}(f:α→Bool)(l:List α)(d:α):∀c i,i+c=l.length→Fw (fun x=>f (l.getD x d)) c i=i+((l.drop i).takeWhile f).length
 |0,i,h=>by
  rw[List.drop_eq_nil_of_le (by omega)]
  rfl
 |c+1,i,h=>by
  rw[List.drop_eq_getElem_cons (show i<l.length by omega)]
  unfold Fw
  have e:l.getD i d=l[i]:=by rw[List.getD_eq_getElem?_getD,List.getElem?_eq_getElem (by omega)];rfl
  rw[e]
  cases hf:f l[i] with
  |false=>rw[List.takeWhile_cons_of_neg (by simp[hf])];rfl
  |true=>
   rw[List.takeWhile_cons_of_pos hf,av,AY f l d c (i+1) (by omega),List.length_cons]
   omega
theorem lJ {α:Type}(f:α→Bool)(l:List α):l.take (l.takeWhile f).length=l.takeWhile f∧l.drop (l.takeWhile f).length=l.dropWhile f:=by
 have e:=List.takeWhile_append_dropWhile (p:=f) (l:=l)
 have h1:(l.takeWhile f++l.dropWhile f).take (l.takeWhile f).length=l.takeWhile f:=List.take_left
 have h2:(l.takeWhile f++l.dropWhile f).drop (l.takeWhile f).length=l.dropWhile f:=List.drop_left
 rw[e] at h1 h2
 exact⟨h1,h2⟩
theorem vr {α:Type}(f:α→Bool)(l:List α):(l.takeWhile f).length≤l.length:=(List.takeWhile_sublist f).length_le
theorem QO {α:Type}{b:Nat}(f:α→Bool)(l:List α)(p:α)(hl:l.length≤1000)(hb:b≤1000):ins b l (((l.takeWhile f).length:Nat):Int) [p]=some (l.takeWhile f++(p::l.dropWhile f)):=by
 unfold ins
 have h:=vr f l
 have hm:(l.length+1)*b≤1001*1000:=Nat.mul_le_mul (by omega) hb
 rw[ai (show(0:Int)≤((l.takeWhile f).length:Int) by omega),ai (show((l.takeWhile f).length:Int)≤(l.length:Int) by omega),yE (show(l.length+1)*b≤70368744177664 by omega) (by omega),aB,(lJ f l).1,(lJ f l).2]
 rfl
def mq (l:List zB)(p:zB):List zB:=l.takeWhile (fun q=>wM q p)++(p::l.dropWhile (fun q=>wM q p))
def Fx (l:List zB)(p:zB):List zB:=l.takeWhile (fun q=>gH q p)++(p::l.dropWhile (fun q=>gH q p))
theorem qXv {k:Nat}{l:List zB}(hl:qW l):sK k l=some l:=by
 unfold qW at hl
 unfold sK
 rw[yE (by omega) (by omega)]
 rfl
theorem vIr {k:Nat}(hk:3≤k)(l:List zB)(hl:qW l)(bP:l.length<k)(p:zB):AZ k k l 0 p=some (l,(((l.takeWhile (fun q=>wM q p)).length:Nat):Int),p):=by
 unfold qW at hl
 have := AW (L := fun n i => AZ k n l i p) (N := l.length) (fun x => wM (l.getD x pd) p) (fun i => (l, (i : Int), p)) (fun n=>by
  show A0 k _ l l.length p=_
  unfold A0
  simp only [zU, aj (Nat.lt_irrefl _), ao]) (fun n i hi=>by
  show A0 k _ l i p=_
  unfold A0
  obtain⟨x,h1,h2,_⟩:=QN hk (l.getD i pd) p
  simp only[pd] at h1
  simp only[qG,zU,aB,ai hi,av,h1,ak,h2,qO hi (show l.length<9223372036854775808 by omega)]
  cases wM (l.getD i pd) p<;>rfl) l.length 0 k (by omega) bP
 have e:((0:Nat):Int)=0:=rfl
 rw[e] at this
 show AZ k k l 0 p=_
 rw[this,AY (fun q=>wM q p) l pd l.length 0 (by omega),List.drop_zero,Nat.zero_add]
theorem QP {k:Nat}{l:List zB}(hk:3≤k)(bP:l.length<k)(hl:qW l)(p:zB):
  sL k l p=some (bif (vN l p.1).isSome then(l,6) else bif decide (40≤l.length) then(l,3) else(mq l p,0)):=by
 have eg:=hl
 unfold qW at hl
 unfold sL
 rw[AQ bP (by omega)]
 unfold iK
 cases hp:vN l p.1 with
 |some x=>
  have e1:decide ((x:Int)≥0)=true:=ai (by omega)
  simp only[ak,e1,av,Option.isSome_some]
 |none=>
  have e1:decide ((-1:Int)≥0)=false:=rfl
  simp only[ak,e1,ao,Option.isSome_none]
  by_cases h:40≤l.length
  ·rw[ai h,ai (show(l.length:Int)≥40 by omega)];rfl
  ·rw[aj h,aj (show¬(l.length:Int)≥40 by omega)]
   simp only[ao,vIr hk l eg bP,ak,qXv eg,Jx]
   rw[QO _ l p hl (by decide)]
   rfl
theorem QQ {l:List zB}{x:Nat}(h:qW l):qW (yC l x):=by
 unfold qW at*
 have:=(pP l x).length_le
 omega
def Fy (l:List zB)(id:Int):List zB:=match vN l id with|some x=>yC l x|none=>l
theorem yAh {l:List zB}{id:Int}(hd:qS l):vN (Fy l id) id=none:=by
 cases h:vN (Fy l id) id with
 |none=>rfl
 |some y=>
  exfalso
  obtain⟨h1,h2⟩:=iL h
  unfold Fy at h h1 h2
  cases hp:vN l id with
  |none=>
   rw[hp] at h
   rw[hp] at h;cases h
  |some x=>
   rw[hp] at h1 h2
   obtain⟨h3,h4⟩:=iL hp
   have hm:=wS (d:=pd) h1
   have e:=Fs l x pd h3
   unfold qS at hd
   rw[e] at hd
   have Fz:=List.pairwise_append.1 hd
   have QR:=List.pairwise_cons.1 Fz.2.1
   simp only at h1 h2 hm
   unfold yC at hm
   rcases List.mem_append.1 hm with hm|hm
   ·exact Fz.2.2 _ hm _ (List.mem_cons_self ..) (h2.trans h4.symm)
   ·exact QR.1 _ hm (h4.trans h2.symm)
theorem vMv {k:Nat}{l:List zB}(hk:3≤k)(bP:l.length<k)(hl:qW l)(hd:qS l)(h40:l.length≤40){id:Int}{x:Nat}(hx:vN l id=some x)(c:Int):
  A2 k l id c=some (mq (yC l x) ((l.getD x pd).1,(l.getD x pd).2.1,(l.getD x pd).2.2.1,(l.getD x pd).2.2.2.1,c,(l.getD x pd).2.2.2.2.2.1,(l.getD x pd).2.2.2.2.2.2),0):=by
 have cw:=iL hx
 have hw:=yAh (id:=id) hd
 unfold Fy at hw
 rw[hx] at hw
 have hlen:=kP cw.1
 unfold A2
 rw[vq bP hl]
 unfold gh
 rw[hx]
 simp only[ak,decide_true,aY,ao]
 rw[QP hk (by omega) (QQ hl)]
 simp only[cw.2,hw,Option.isSome_none,ao,aj (show¬40≤(yC l x).length by omega),ak]
theorem vE0 {k:Nat}{l:List zB}(hk:3≤k)(bP:l.length<k)(hl:qW l)(hd:qS l)(h40:l.length≤40){id:Int}{x:Nat}(hx:vN l id=some x):
  A3 k l id=some (mq (yC l x) (l.getD x pd),0):=by
 have cw:=iL hx
 have hw:=yAh (id:=id) hd
 unfold Fy at hw
 rw[hx] at hw
 have hlen:=kP cw.1
 unfold A3
 rw[vq bP hl]
 unfold gh
 rw[hx]
 simp only[ak,decide_true,aY,ao]
 rw[QP hk (by omega) (QQ hl)]
 simp only[cw.2,hw,Option.isSome_none,ao,aj (show¬40≤(yC l x).length by omega),ak]
 simp only[A4]
 rw[←cw.2]
theorem yZ6 {k:Nat}(hk:3≤k)(l:List zB)(hl:qW l)(bP:l.length<k)(p:zB):A5 k k 0 l p=some ((((l.takeWhile (fun q=>gH q p)).length:Nat):Int),l,p):=by
 unfold qW at hl
 have := AW (L := fun n i => A5 k n i l p) (N := l.length) (fun x => gH (l.getD x pd) p) (fun i => ((i : Int), l, p)) (fun n=>by
  show A6 k _ l.length l p=_
  unfold A6
  simp only [zU, aj (Nat.lt_irrefl _), ao]) (fun n i hi=>by
  show A6 k _ i l p=_
  unfold A6
  obtain⟨x,h1,_,h2⟩:=QN hk (l.getD i pd) p
  simp only[pd] at h1
  simp only[qG,zU,aB,ai hi,av,h1,ak,h2,qO hi (show l.length<9223372036854775808 by omega)]
  cases gH (l.getD i pd) p<;>rfl) l.length 0 k (by omega) bP
 have e:((0:Nat):Int)=0:=rfl
 rw[e] at this
 show A5 k k 0 l p=_
 rw[this,AY (fun q=>gH q p) l pd l.length 0 (by omega),List.drop_zero,Nat.zero_add]
theorem vCw {k:Nat}{l:List zB}(hk:3≤k)(bP:l.length<k)(hl:qW l){id:Int}{x:Nat}(hx:vN l id=some x):
  A7 k l id=some (Fx (yC l x) (l.getD x pd),0):=by
 have eg:=hl
 unfold qW at hl
 have cw:=iL hx
 have hlen:=kP cw.1
 have e1:decide ((x:Int)<0)=false:=aj (by omega)
 unfold A7 QS
 rw[AQ bP (by omega)]
 unfold iK
 rw[hx]
 simp only[ak,e1,ao,qXv eg,qO cw.1 (show l.length<9223372036854775808 by omega),yVh k cw.1 eg,qG,ai cw.1,av,aB]
 have e0:decide ((0:Int)=0)=true:=rfl
 simp only[gi,A4,e0,aY,ao]
 rw[yZ6 hk (yC l x) (QQ eg) (by omega)]
 simp only[ak,Jx]
 rw[QO _ (yC l x) _ (by omega) (by decide)]
 rfl
def wY (l:List Int)(id:Int):Nat:=(l.takeWhile (fun x=>decide (x<id))).length
theorem vQc {x:Int}(h0:0≤x)(h1:x<9223372036854775808):zA (shr .u64 (IntKind.wrap .u64 (zA x)) 1)=x/2:=by
 have e1:zA x=x:=zV (by omega) h1
 have e2:IntKind.wrap .u64 x=x:=by
  unfold IntKind.wrap
  simp only[IntKind.bits,IntKind.signed,Bool.false_and,Bool.false_eq_true,if_false]
  omega
 rw[e1,e2]
 have e3:shr .u64 x 1=x/2:=by
  unfold shr
  have:(2:Int)^(min (1:Int).toNat (IntKind.bits .u64))=2:=by decide
  rw[this,Int.fdiv_eq_ediv_of_nonneg _ (by omega)]
 rw[e3]
 exact zV (by omega) (by omega)
theorem vDf (k:Nat)(a b:Int):Jy k a b=some (decide (a<b)):=by
 unfold Jy Jz
 simp only[decide_true,aY,ak,ao]
theorem QT {k:Nat}{l:List Int}{id:Int}(hl:l.length≤1000){c:Nat}(hc:c≤l.length)(h1:∀x,x<c→l.getD x 0<id)(h2:∀x,c≤x→x<l.length→id≤l.getD x 0)(s6:Int):
  ∀(n i j:Nat),i≤c→c≤j→j≤l.length→j-i<n→FA k n l id s6 i j=some (l,id,s6,(c:Int))
 |0,_,_,_,_,_,h=>absurd h (Nat.not_lt_zero _)
 |n+1,i,j,hi,hj,ui,hn=>by
  show JA k (FA k n) l id s6 i j=_
  unfold JA
  rw[zU]
  by_cases jq:i<j
  ·have hh:zA (shr .u64 (IntKind.wrap .u64 (zA ((i:Int)+(j:Int)))) 1)=(((i+j)/2:Nat):Int):=by
    rw[vQc (by omega) (by omega)];omega
   have hm:(i+j)/2<l.length:=by omega
   rw[ai jq,av,hh,qG,ai hm,av,vDf]
   simp only[ak,aB]
   by_cases aU:(i+j)/2<c
   ·rw[ai (h1 _ aU),av,qO hm (by omega)]
    exact QT hl hc h1 h2 s6 n _ j (by omega) hj ui (by omega)
   ·have:=h2 _ (Nat.not_lt.1 aU) hm
    rw[aj (show¬l.getD ((i+j)/2) 0<id by omega),ao]
    exact QT hl hc h1 h2 s6 n i _ hi (by omega) (by omega) (by omega)
  ·rw[aj jq,ao]
   have:i=c:=by omega
   rw[this]
theorem vHj {k:Nat}{l:List Int}{id:Int}(bP:l.length<k)(hl:l.length≤1000){c:Nat}(hc:c≤l.length)(h1:∀x,x<c→l.getD x 0<id)(h2:∀x,c≤x→x<l.length→id≤l.getD x 0):
  A8 k l id=some ((c:Int),decide (c<l.length)&&decide (l.getD c 0=id)):=by
 unfold A8
 have:=QT (k:=k) hl hc h1 h2 (l.length:Int) k 0 l.length (by omega) hc (Nat.le_refl _) (by omega)
 rw[show((0:Nat):Int)=0 from rfl] at this
 rw[this]
 simp only[ak,zU,qG,aB]
 by_cases h:c<l.length
 ·simp only[ai h,av,Bool.true_and]
  by_cases h3:l.getD c 0=id
  ·rw[ai h3];rfl
  ·rw[aj h3]
   unfold JB
   simp only[decide_true,ao,ak,aY]
 ·simp only[aj h,ao,Bool.false_and]
def pQ (l:List Int):Prop:=List.Pairwise (fun a b=>a<b) l
theorem yIn {l:List Int}{id:Int}:∀x,x<wY l id→l.getD x 0<id:=by
 intro x hx
 unfold wY at hx
 have h:=lJ (fun x=>decide (x<id)) l
 have e:l.getD x 0=(l.takeWhile (fun x=>decide (x<id))).getD x 0:=by
  rw[←h.1,List.getD_eq_getElem?_getD,List.getD_eq_getElem?_getD,List.getElem?_take,if_pos hx]
 rw[e]
 have hm:=wS (d:=(0:Int)) hx
 have:=List.all_eq_true.1 (List.all_takeWhile (p:=fun x=>decide (x<id)) (l:=l)) _ hm
 simpa using this
theorem yK8 {l:List Int}(ha:pQ l){id:Int}:∀x,wY l id≤x→x<l.length→id≤l.getD x 0:=by
 intro x hx hl
 have hi:wY l id<l.length:=by omega
 have h:=lJ (fun x=>decide (x<id)) l
 have h0:¬l.getD (wY l id) 0<id:=by
  have hd:l.drop (wY l id)=l[wY l id]::l.drop (wY l id+1):=List.drop_eq_getElem_cons hi
  have h2:=h.2
  unfold wY at hd
  rw[h2] at hd
  have bn:l.dropWhile (fun x=>decide (x<id))≠[]:=by rw[hd];simp
  have:=List.head_dropWhile_not (fun x=>decide (x<id)) bn
  have e:(l.dropWhile (fun x=>decide (x<id))).head bn=l[wY l id]:=by
   unfold wY
   simp only[hd,List.head_cons]
  rw[e] at this
  rw[List.getD_eq_getElem?_getD,List.getElem?_eq_getElem hi]
  simpa using this
 by_cases e:x=wY l id
 ·rw[e];omega
 ·have:=List.pairwise_iff_getElem.1 ha (wY l id) x hi hl (by omega)
  rw[List.getD_eq_getElem?_getD,List.getElem?_eq_getElem hl]
  rw[List.getD_eq_getElem?_getD,List.getElem?_eq_getElem hi] at h0
  simp only[Option.getD_some] at h0⊢
  omega
theorem vCo {l:List Int}(ha:pQ l)(id:Int):(decide (wY l id<l.length)&&decide (l.getD (wY l id) 0=id))=decide (id∈l):=by
 by_cases hm:id∈l
 ·obtain⟨x,hx,e⟩:=List.getElem_of_mem hm
  have e':l.getD x 0=id:=by rw[List.getD_eq_getElem?_getD,List.getElem?_eq_getElem hx];exact e
  have h1:¬x<wY l id:=fun h=>by have:=yIn x h;omega
  have h3:wY l id<l.length:=by omega
  have h4:¬wY l id<x:=fun h=>by
   have g1:=yK8 ha (id:=id) (wY l id) (Nat.le_refl _) h3
   have g2:=List.pairwise_iff_getElem.1 ha (wY l id) x h3 hx h
   rw[List.getD_eq_getElem?_getD,List.getElem?_eq_getElem h3] at g1
   simp only[Option.getD_some] at g1
   omega
  have h5:wY l id=x:=by omega
  rw[ai hm,ai h3,h5,ai e'];rfl
 ·rw[aj hm]
  by_cases h:wY l id<l.length
  ·rw[aj (show¬l.getD (wY l id) 0=id from fun e=>hm (e▸wS h)),Bool.and_false]
  ·rw[aj h];rfl
def pR (l:List Int)(id:Int):List Int:=l.takeWhile (fun x=>decide (x<id))++(id::l.dropWhile (fun x=>decide (x<id)))
theorem yF7 {k:Nat}{l:List Int}(bP:l.length<k)(hl:l.length≤1000)(ha:pQ l)(id:Int):A8 k l id=some ((wY l id:Int),decide (id∈l)):=by
 rw[vHj bP hl (vr _ l) yIn (yK8 ha)]
 show some ((wY l id:Int),decide (wY l id<l.length)&&decide (l.getD (wY l id) 0=id))=_
 rw[vCo ha]
theorem vJg {k:Nat}{l:List Int}(bP:l.length<k)(hl:l.length≤1000)(ha:pQ l)(id:Int):JC k l id=some (decide (id∈l)):=by
 unfold JC
 rw[yF7 bP hl ha]
 rfl
theorem vN5 {k:Nat}{l:List Int}(bP:l.length<k)(hl:l.length≤1000)(ha:pQ l)(id:Int):
  A9 k l id=some (bif decide (id∈l) then(l,6) else bif decide (200≤l.length) then(l,3) else(pR l id,0)):=by
 unfold A9
 rw[yF7 bP hl ha]
 simp only[ak]
 by_cases hm:id∈l
 ·rw[ai hm];rfl
 ·rw[aj hm]
  simp only[ao]
  by_cases h:200≤l.length
  ·rw[ai h,ai (show(l.length:Int)≥200 by omega)];rfl
  ·rw[aj h,aj (show¬(l.length:Int)≥200 by omega)]
   have e2:nn k l=some l:=by
    unfold nn
    rw[yE (by omega) (by omega)]
    rfl
   simp only[ao,e2,ak,yR9]
   unfold wY
   rw[QO _ l id hl (by decide)]
   rfl
def gI (l:List Int):Int:=zR (fun x=>x) l
def sM (x:Int):Bool:=decide (-9223372036854775808≤x)&&decide (x<9223372036854775808)
theorem yBe (x:Int):shr .i64 x 63=x/9223372036854775808:=by
 show x.fdiv (2^(min 63 64))=_
 rw[Int.fdiv_eq_ediv_of_nonneg _ (by decide)]
 rfl
theorem nv (x:Int):IntKind.wrap .u64 x=x%18446744073709551616:=by
 unfold IntKind.wrap
 simp only[IntKind.bits,IntKind.signed,Bool.false_and]
 rfl
theorem vF8 {x:Int}(h:0≤x∧x<18446744073709551616):zA x=if x<9223372036854775808 then x else x-18446744073709551616:=by
 unfold zA IntKind.wrap
 simp only[IntKind.bits,IntKind.signed,Bool.true_and]
 by_cases c:x%2^64≥2^(64-1)
 ·rw[if_pos (by simpa using c)]
  split<;>omega
 ·rw[if_neg (by simpa using c)]
  split<;>omega
theorem vAs (l:List Int)(i:Nat)(hi:i<l.length):gI (l.take (i+1))=gI (l.take i)+l.getD i 0:=by
 have:l.take (i+1)=l.take i++[l.getD i 0]:=by
  rw[List.take_add_one,List.getD_eq_getElem?_getD,List.getElem?_eq_getElem hi]
  rfl
 unfold gI
 rw[this,j9]
 simp[zR]
theorem qZ4 {k:Nat}{l:List Int}(hk:l.length<k)(hl:l.length≤1000000)(hw:∀i,i<l.length→-9223372036854775808≤l.getD i 0∧l.getD i 0<9223372036854775808):
  Ba k l=some (bif sM (gI l) then(gI l,true) else(0,false)):=by
 obtain ⟨s', g1, g2, g3, g4⟩ := vF (L := fun n i (s : Int × Int) => Bb k n s.1 s.2 l (l.length : Int) i) (N := l.length) (fun s => (s.1, s.2)) (fun i s => (0 ≤ s.2 ∧ s.2 < 18446744073709551616) ∧ s.1 * 18446744073709551616 + s.2 = gI (l.take i) ∧ (-(i : Int) ≤ s.1 ∧ s.1 ≤ i)) (fun n s _=>by
  show Bc k _ s.1 s.2 l l.length l.length=_
  unfold Bc
  simp only [zU, aj (Nat.lt_irrefl _), ao]) (fun n i s hi hs=>by
  obtain⟨h,lo⟩:=s
  obtain⟨⟨h1,h2⟩,h3,h4⟩:=hs
  simp only at h1 h2 h3 h4
  show∃s',Bc k _ h lo l l.length i=_∧_
  unfold Bc uU
  have hb:=hw i hi
  have hsn:=vAs l i hi
  obtain⟨v,hv⟩:∃v,l.getD i 0=v:=⟨_,rfl⟩
  rw[hv] at hb hsn
  simp only[zU,qG,aB,ai hi,av,hv,nv,yBe,decide_true,ak,qO hi (show l.length<9223372036854775808 by omega)]
  obtain⟨u,hu⟩:∃u,v%18446744073709551616=u:=⟨_,rfl⟩
  rw[hu]
  obtain⟨q,hq⟩:∃q,v/9223372036854775808=q:=⟨_,rfl⟩
  rw[hq]
  have nR:u=v-q*18446744073709551616:=by omega
  have mr:q=0∨q= -1:=by omega
  obtain⟨a,ha⟩:∃a:Nat,lo.toNat+u.toNat+0=a:=⟨_,rfl⟩
  rw[ha]
  have mb:(a:Int)=lo+u:=by omega
  obtain⟨c,hc⟩:∃c:Nat,a/18446744073709551616=c:=⟨_,rfl⟩
  obtain⟨m,hm⟩:∃c:Nat,a%18446744073709551616=c:=⟨_,rfl⟩
  rw[hc,hm]
  have hcm:a=c*18446744073709551616+m:=by omega
  have nf:m<18446744073709551616:=by omega
  have ju:c≤1:=by omega
  have e1:zA (Int.ofNat c)=(c:Int):=zV (by show(_:Int)≤((c:Nat):Int);omega) (by show((c:Nat):Int)<_;omega)
  have e2:zA (q+(c:Int))=q+c:=zV (by omega) (by omega)
  have e3:zA (h+(q+(c:Int)))=h+(q+c):=zV (by omega) (by omega)
  rw[e1,e2,e3]
  refine⟨(h+(q+c),(m:Int)),rfl,⟨by show(0:Int)≤(m:Int);omega,by show(m:Int)<_;omega⟩,?_,?_⟩
  ·rw[hsn]
   show(h+(q+c))*18446744073709551616+(m:Int)=_
   omega
  ·show-((i+1:Nat):Int)≤h+(q+c)∧h+(q+c)≤((i+1:Nat):Int)
   omega) (s:=(0,0)) hk ⟨⟨by show(0:Int)≤0;omega,by show(0:Int)<_;omega⟩,rfl,by show-((0:Nat):Int)≤0;omega,by show(0:Int)≤((0:Nat):Int);omega⟩
 have pS:Bb k k 0 0 l (l.length:Int) 0=some (s'.1,s'.2):=g1
 rw[List.take_length] at g3
 unfold Ba
 rw[pS]
 simp only[ak,yBe]
 rw[vF8 g2]
 by_cases c:sM (gI l)=true
 ·have c':-9223372036854775808≤gI l∧gI l<9223372036854775808:=by simpa[sM] using c
  rw[c]
  by_cases d:s'.2<9223372036854775808
  ·rw[if_pos d,ai (show s'.1=s'.2/9223372036854775808 by omega)]
   simp only[aY,ao,av]
   rw[show s'.2=gI l by omega]
  ·rw[if_neg d,ai (show s'.1=(s'.2-18446744073709551616)/9223372036854775808 by omega)]
   simp only[aY,ao,av]
   rw[show s'.2-18446744073709551616=gI l by omega]
 ·have c':¬(-9223372036854775808≤gI l∧gI l<9223372036854775808):=by simpa[sM] using c
  rw[Bool.not_eq_true] at c
  rw[c]
  by_cases d:s'.2<9223372036854775808
  ·rw[if_pos d,aj (show¬s'.1=s'.2/9223372036854775808 by omega)]
   rfl
  ·rw[if_neg d,aj (show¬s'.1=(s'.2-18446744073709551616)/9223372036854775808 by omega)]
   rfl
theorem QU {x:Int}(h:0≤x):yK .u64 x 4294967295=x%4294967296:=by
 obtain⟨n,rfl⟩:=Int.eq_ofNat_of_zero_le h
 unfold yK oU
 rw[nv]
 have e1:(BitVec.ofInt IntKind.u64.bits (n:Int)&&&BitVec.ofInt IntKind.u64.bits 4294967295).toNat=n%4294967296:=by
  rw[BitVec.toNat_and,BitVec.toNat_ofInt,BitVec.toNat_ofInt]
  have e2:((4294967295:Int)%((2^IntKind.u64.bits:Nat):Int)).toNat=2^32-1:=by decide
  rw[e2,Nat.and_two_pow_sub_one_eq_mod]
  have e3:((n:Int)%((2^IntKind.u64.bits:Nat):Int)).toNat=n%18446744073709551616:=by
   show((n:Int)%((18446744073709551616:Nat):Int)).toNat=_
   omega
  rw[e3]
  show n%18446744073709551616%4294967296=_
  omega
 rw[e1]
 omega
theorem vJ6 (x:Int):shr .u64 x 32=x/4294967296:=by
 show x.fdiv (2^(min 32 64))=_
 rw[Int.fdiv_eq_ediv_of_nonneg _ (by decide)]
 rfl
theorem vAi {a1 a0 b1 b0:Int}:(a1*4294967296+a0)*(b1*4294967296+b0)=a1*b1*18446744073709551616+(a1*b0+a0*b1)*4294967296+a0*b0:=by
 rw[Int.add_mul,Int.mul_add,Int.mul_add]
 have e1:a1*4294967296*(b1*4294967296)=a1*b1*18446744073709551616:=by
  rw[Int.mul_assoc,←Int.mul_assoc 4294967296 b1,Int.mul_comm 4294967296 b1,Int.mul_assoc b1,←Int.mul_assoc];rfl
 have e2:a1*4294967296*b0=a1*b0*4294967296:=by rw[Int.mul_assoc,Int.mul_comm 4294967296 b0,←Int.mul_assoc]
 have e3:a0*(b1*4294967296)=a0*b1*4294967296:=by rw[←Int.mul_assoc]
 rw[e1,e2,e3]
 omega
theorem vU {a b A B:Int}(h0:0≤a)(h1:a≤A)(g0:0≤b)(g1:b≤B):0≤a*b∧a*b≤A*B:=
 ⟨Int.mul_nonneg h0 g0,Int.mul_le_mul h1 g1 g0 (by omega)⟩
theorem qYo (k:Nat){x y:Int}(hx:0≤x∧x<18446744073709551616)(hy:0≤y∧y<18446744073709551616):FB k x y=some (x*y/18446744073709551616,x*y%18446744073709551616):=by
 unfold FB
 simp only[vJ6,QU hx.1,QU hy.1,nv]
 obtain⟨a1,h1⟩:∃a,x/4294967296=a:=⟨_,rfl⟩
 obtain⟨a0,h0⟩:∃a,x%4294967296=a:=⟨_,rfl⟩
 obtain⟨b1,g1⟩:∃a,y/4294967296=a:=⟨_,rfl⟩
 obtain⟨b0,g0⟩:∃a,y%4294967296=a:=⟨_,rfl⟩
 have hxe:x=a1*4294967296+a0:=by omega
 have hye:y=b1*4294967296+b0:=by omega
 rw[h1,h0,g1,g0]
 have JD:0≤a1∧a1≤4294967295:=by omega
 have kD:0≤a0∧a0≤4294967295:=by omega
 have jv:0≤b1∧b1≤4294967295:=by omega
 have JE:0≤b0∧b0≤4294967295:=by omega
 have p11:=vU JD.1 JD.2 jv.1 jv.2
 have pH:=vU JD.1 JD.2 JE.1 JE.2
 have p01:=vU kD.1 kD.2 jv.1 jv.2
 have p00:=vU kD.1 kD.2 JE.1 JE.2
 have Ja:x*y=a1*b1*18446744073709551616+(a1*b0+a0*b1)*4294967296+a0*b0:=by rw[hxe,hye,vAi]
 rw[Ja]
 generalize a1*b1=u at*
 generalize a1*b0=v at*
 generalize a0*b1=s at*
 generalize a0*b0=t at*
 have c1:(t%18446744073709551616)=t:=by omega
 have c2:(v%18446744073709551616+t/4294967296)%18446744073709551616=v+t/4294967296:=by omega
 rw[c1,c2]
 have FC:yK .u64 (v+t/4294967296) 4294967295=(v+t/4294967296)%4294967296:=QU (by omega)
 rw[FC]
 refine congrArg some (Prod.ext ?_ ?_)
 ·show _%_=_/_
  omega
 ·rfl
theorem vI0 (k:Nat){x:Int}(hx:0≤x∧x<18446744073709551616):JF k 0 x 10000=some (x/10000,x%10000):=by
 unfold JF
 have e1:decide ((10000:Int)=0)=false:=rfl
 have e2:decide ((10000:Int)≤0)=false:=rfl
 simp only[e1,e2,decide_true,ao,av,dX,nv]
 rw[Int.tdiv_eq_ediv_of_nonneg hx.1,Int.tmod_eq_emod_of_nonneg hx.1]
 have:x/10000%18446744073709551616=x/10000:=by omega
 rw[this]
def pT (price many cut:Int):Int:=price*many*(10000-cut)/10000
theorem yLc {p m c:Int}(hp:0≤p∧p≤1048576)(hm:0≤m∧m≤1099511627776)(hc:0≤c∧c≤10000):0≤pT p m c∧pT p m c≤1152921504606846976:=by
 have h1:=vU hp.1 hp.2 hm.1 hm.2
 have h2:=vU h1.1 h1.2 (show 0≤10000-c by omega) (show 10000-c≤10000 by omega)
 unfold pT
 generalize p*m*(10000-c)=z at*
 omega
theorem yX5 (k:Nat){p m c:Int}(hp:0≤p∧p≤1048576)(hm:0≤m∧m≤1099511627776)(hc:0≤c∧c≤10000):JG k p m c=some (pT p m c,true):=by
 unfold JG QV
 have w1:zA (10000-c)=10000-c:=zV (by omega) (by omega)
 have e1:decide (p<0)=false:=aj (by omega)
 have e2:decide (m<0)=false:=aj (by omega)
 have e3:decide (c≥0)=true:=ai (by omega)
 have e4:decide (c≤10000)=true:=ai (by omega)
 have u1:p%18446744073709551616=p:=by omega
 have u2:m%18446744073709551616=m:=by omega
 have u3:(10000-c)%18446744073709551616=10000-c:=by omega
 have h1:=vU hp.1 hp.2 hm.1 hm.2
 have hP:p*m/18446744073709551616=0:=by omega
 have hP2:p*m%18446744073709551616=p*m:=by omega
 have t0:Int.tmod 0 10000=0:=by simp
 have t1:Int.tdiv 0 10000=0:=by simp
 rw[e1,e2,e3,e4,ao,ao,av,ak,aY,ao,nv p,nv m,u1,u2,qYo k (show 0≤p∧p<18446744073709551616 by omega) (show 0≤m∧m<18446744073709551616 by omega),ak,hP,hP2]
 dsimp only
 rw[t0,t1,vI0 k (show 0≤p*m∧p*m<18446744073709551616 by omega),ak]
 dsimp only
 rw[w1,nv (10000-c),u3]
 unfold pT
 obtain⟨l,hl⟩:∃l,10000-c=l:=⟨_,rfl⟩
 rw[hl]
 obtain⟨P,hPe⟩:∃P,p*m=P:=⟨_,rfl⟩
 rw[hPe] at h1⊢
 have eg:0≤l∧l≤10000:=by omega
 rw[qYo k (show 0≤P/10000∧P/10000<18446744073709551616 by omega) (show 0≤l∧l<18446744073709551616 by omega)]
 have hq:=vU (show 0≤P/10000 by omega) (show P/10000≤115292150460684 by omega) eg.1 eg.2
 have hr:=vU (show 0≤P%10000 by omega) (show P%10000≤9999 by omega) eg.1 eg.2
 have vt:P*l=P/10000*l*10000+P%10000*l:=by
  have:P=P/10000*10000+P%10000:=by omega
  have e:P/10000*l*10000=P/10000*10000*l:=by rw[Int.mul_assoc,Int.mul_comm l,←Int.mul_assoc]
  rw[e,←Int.add_mul,←this]
 rw[vt]
 generalize P/10000*l=a at*
 generalize P%10000*l=b at*
 have v1:a/18446744073709551616=0:=by omega
 have v2:a%18446744073709551616=a:=by omega
 have v3:b%18446744073709551616=b:=by omega
 have v4:Int.tdiv b 10000=b/10000:=Int.tdiv_eq_ediv_of_nonneg hr.1
 have v5:b/10000%18446744073709551616=b/10000:=by omega
 have ha:uU k a (b/10000) 0=some (a+b/10000,0):=by
  have n1:(Int.ofNat ((a.toNat+(b/10000).toNat+0)%18446744073709551616))=a+b/10000:=by rw[Int.ofNat_eq_natCast];omega
  have n2:(Int.ofNat ((a.toNat+(b/10000).toNat+0)/18446744073709551616))=0:=by rw[Int.ofNat_eq_natCast];omega
  unfold uU
  rw[ai rfl,av,n1,n2]
 rw[ak]
 dsimp only
 rw[v1,v2,nv b,v3,v4,nv (b/10000),v5,ha,ak]
 dsimp only
 have z1:IntKind.wrap .u64 0=0:=by rw[nv];omega
 have z2:IntKind.wrap .u64 (0+0)=0:=by rw[nv];omega
 have z3:decide ((0:Int)>0)=false:=aj (by omega)
 have z4:decide (a+b/10000>9223372036854775807)=false:=aj (by omega)
 have z5:zA (a+b/10000)=a+b/10000:=zV (by omega) (by omega)
 rw[z1,z2,z3,z4,z5,ao,ao,ao]
 have:(a*10000+b)/10000=a+b/10000:=by omega
 rw[this]
abbrev fL:=Int×Int
abbrev pU:fL:=(0,0)
def ka (sa:List fL)(pr h:List Int)(i:Nat):Int:=pT (pr.getD i 0) (h.getD i 0) (sa.getD i pU).2
def kb (sa:List fL)(pr h:List Int):Int:=qM (ka sa pr h) sa.length
structure ik (sa:List fL) (pr h:List Int):Prop where
 n3:sa.length≤3
 pl:pr.length=sa.length
 hl:h.length=sa.length
 cut:∀i,i<sa.length→0≤(sa.getD i pU).2∧(sa.getD i pU).2≤10000
 price:∀i,i<sa.length→0≤pr.getD i 0∧pr.getD i 0≤1048576
 hold:∀i,i<sa.length→0≤h.getD i 0∧h.getD i 0≤1099511627776
theorem FD {sa:List fL}{pr h:List Int}(L:ik sa pr h){i:Nat}(hi:i<sa.length):0≤ka sa pr h i∧ka sa pr h i≤1152921504606846976:=yLc (L.price i hi) (L.hold i hi) (L.cut i hi)
theorem QW (g:Nat→Int):∀n,gI ((List.range n).map g)=qM g n
 |0=>rfl
 |n+1=>by
  rw[List.range_succ,List.map_append]
  unfold gI
  rw[j9]
  have:=QW g n
  unfold gI at this
  rw[this]
  show qM g n+(g n+0)=qM g n+g n
  omega
theorem JH {g:Nat→Int}{A:Int}:∀{n:Nat},(∀j,j<n→0≤g j∧g j≤A)→0≤qM g n∧qM g n≤n*A
 |0,_=>by simp[qM]
 |n+1,h=>by
  have h1:=JH (n:=n) (fun j hj=>h j (by omega))
  have h2:=h n (by omega)
  have h3:((n+1:Nat):Int)*A=n*A+A:=by rw[Int.natCast_add,Int.add_mul];simp
  rw[h3]
  show 0≤qM g n+g n∧qM g n+g n≤_
  omega
theorem vC4 {k:Nat}{sa:List fL}{pr h:List Int}(L:ik sa pr h)(hk:10≤k):Bd k k pr h sa sa.length 0 []=some (.inl ((List.range sa.length).map (ka sa pr h))):=by
 have hn:=L.n3
 obtain ⟨s', h1, h2⟩ := vF (L := fun n i (s : List Int) => Bd k n pr h sa sa.length i s) (N := sa.length) (fun s => .inl s) (fun i s => s = (List.range i).map (ka sa pr h)) (fun n s _=>by
  show Be k _ pr h sa sa.length sa.length s=_
  unfold Be
  simp only [zU, aj (Nat.lt_irrefl _), ao]) (fun n i s hi hs=>by
  refine⟨s++[ka sa pr h i],?_,?_⟩
  ·show Be k _ pr h sa sa.length i s=_
   unfold Be
   have eM:s.length≤3:=by rw[hs,List.length_map,List.length_range];omega
   have hw:=yX5 k (L.price i hi) (L.hold i hi) (L.cut i hi)
   simp only[zU,qG,aB,ai hi,ai (show i<pr.length by rw[L.pl];exact hi),ai (show i<h.length by rw[L.hl];exact hi),av,qO hi (show sa.length<9223372036854775808 by omega)]
   rw[hw]
   simp only[ak,aY,ao,yE (show(s.length+1)*8≤70368744177664 by omega) (show s.length+1≤70368744177664 by omega),av]
   rfl
  ·rw[hs,List.range_succ,List.map_append];rfl) (s:=[]) (show sa.length<k by omega) rfl
 have cP:Bd k k pr h sa sa.length 0 []=_:=h1
 rw[cP,h2]
theorem QX {k:Nat}{sa:List fL}{pr h:List Int}(L:ik sa pr h)(hk:10≤k):oE k sa pr h=some (kb sa pr h,true):=by
 have hn:=L.n3
 have hb:=JH (g:=ka sa pr h) (n:=sa.length) (fun j hj=>FD L hj)
 have hm:(sa.length:Int)*1152921504606846976≤3*1152921504606846976:=Int.mul_le_mul_of_nonneg_right (by omega) (by decide)
 unfold oE
 have e1:decide ((pr.length:Int)=(sa.length:Int))=true:=ai (by rw[L.pl])
 have e2:decide ((h.length:Int)=(sa.length:Int))=true:=ai (by rw[L.hl])
 simp only[e1,e2,aY,ao]
 rw[vC4 L hk]
 simp only[ak]
 rw [qZ4 (by rw [List.length_map, List.length_range]; omega) (by rw [List.length_map, List.length_range]; omega) (fun i hi=>by
  rw[List.length_map,List.length_range] at hi
  have:=FD L hi
  have e:((List.range sa.length).map (ka sa pr h)).getD i 0=ka sa pr h i:=by
   rw[List.getD_eq_getElem?_getD,List.getElem?_map,List.getElem?_range hi];rfl
  rw[e];omega)]
 rw[QW]
 have e3:sM (qM (ka sa pr h) sa.length)=true:=by
  unfold sM
  rw[ai (by omega),ai (by omega)];rfl
 rw[e3]
 rfl
theorem Bf {sa:List fL}{pr h:List Int}(L:ik sa pr h):0≤kb sa pr h:=(JH (g:=ka sa pr h) (n:=sa.length) (fun j hj=>FD L hj)).1
theorem yFf {k:Nat}{l:List Int}(hl:l.length≤1000){i:Int}(h0:0≤i)(h1:i<l.length)(v:Int):nw k l i v=some (l.set i.toNat v):=by
 unfold nw
 have e2:nn k l=some l:=by
  unfold nn
  rw[yE (by omega) (by omega)]
  rfl
 simp only[e2,ak,ai (show i≥0 by omega),ai h1,av,uX h0 h1]
abbrev BT:=List qN×List (List Int)×List Int×List (List Int)
def qV (B:BT):Prop:=wH B.1 B.2.1 B.2.2.1 B.2.2.2
theorem Bg {k:Nat}(hk:100<k){B:BT}(h:qV B){l:List zB}(hl:l.length≤80):
  ∃r,nq k B.1 B.2.1 B.2.2.1 B.2.2.2 l=some r∧vf k B.1 B.2.1 B.2.2.1 B.2.2.2 l=some r∧oz B.1 B.2.1 B.2.2.1 B.2.2.2 l r:=by
 obtain⟨r,h1,h2⟩:=Jb hk h hl
 obtain⟨r',h3,h4⟩:=vG1 hk h hl
 have:=h2.same h4
 subst this
 exact⟨r,h1,h3,h2⟩
def oF (B:BT)(l:List zB):Bool:=E6 B.1 B.2.1 B.2.2.1 B.2.2.2 l
def fu (k:Nat)(B:BT)(l:List zB):Option BT:=match nq k B.1 B.2.1 B.2.2.1 B.2.2.2 l with
 |some r=>bif decide (r.2.2.2.2=0)&&oF B l then some (r.1,r.2.1,r.2.2.1,r.2.2.2.1) else none
 |none=>none
theorem oG {k:Nat}(hk:100<k){B C:BT}(h:qV B){l:List zB}(hl:l.length≤80)(hg:fu k B l=some C):qV C∧C.1.length=B.1.length:=by
 obtain⟨r,h1,h2,h3⟩:=Bg hk h hl
 unfold fu at hg
 rw[h1] at hg
 simp only at hg
 cases hc:decide (r.2.2.2.2=0)&&oF B l with
 |false=>
  rw[hc] at hg
  cases hg
 |true=>
  rw[hc] at hg
  simp only[av,Option.some.injEq] at hg
  subst hg
  refine⟨(E4 h h3).2.1,?_⟩
  have:=E4 h h3
  by_cases c:vS B.1.length l
  ·obtain⟨a',p',x,e⟩:=h3.1 c
   cases hi:kM a' B.2.1 B.2.2.1 p' with
   |false=>rw[hi] at e;subst e;rfl
   |true=>rw[hi] at e;subst e;exact x.al
  ·rw[h3.2 c]
def jL (k:Nat)(B:BT):List zB→Option (zB×BT)
 |[]=>none
 |p::l=>match fu k B [p] with
  |some C=>some (p,C)
  |none=>jL k B l
theorem vu {k:Nat}{B C:BT}{p:zB}:∀{l:List zB},jL k B l=some (p,C)→p∈l∧fu k B [p]=some C
 |[],h=>by cases h
 |q::l,h=>by
  unfold jL at h
  cases hg:fu k B [q] with
  |some D=>
   rw[hg] at h
   cases h
   exact⟨List.mem_cons_self ..,hg⟩
  |none=>
   rw[hg] at h
   have:=vu h
   exact⟨List.mem_cons_of_mem _ this.1,this.2⟩
theorem qWu (k:Nat)(B:BT){m:List zB}{i:Nat}(hi:i<m.length):jL k B (m.drop i)=match fu k B [m.getD i pd] with
  |some C=>some (m.getD i pd,C)
  |none=>jL k B (m.drop (i+1)):=by
 rw[List.drop_eq_getElem_cons hi]
 have e:m.getD i pd=m[i]:=by rw[List.getD_eq_getElem?_getD,List.getElem?_eq_getElem hi];rfl
 rw[e]
 rfl
theorem JI (l:List zB)(t:Int):(vM l t).length≤l.length:=Nat.le_trans (List.length_filter_le _ _) (List.length_filter_le _ _)
theorem vH3 (m:List zB)(i:Nat)(hi:i<m.length):yB m (0+i) (i+1-i)=[m.getD i pd]:=by
 unfold yB
 rw[Nat.zero_add,show i+1-i=1 by omega,List.drop_eq_getElem_cons hi,List.getD_eq_getElem?_getD,List.getElem?_eq_getElem hi]
 rfl
def jP (l:List zB)(id:Int):List zB:=(gh l id).1
theorem pV {l:List zB}{p:zB}(h:p∈l):(jP l p.1).length+1=l.length∧List.Sublist (jP l p.1) l:=by
 obtain⟨x,hx⟩:=Js h
 unfold jP gh
 rw[hx]
 have:=(iL hx).1
 refine⟨?_,pP l x⟩
 show(yC l x).length+1=l.length
 rw[kP this]
 omega
theorem Bh {l:List zB}{t:Int}{p:zB}(h:p∈vM l t):p∈l:=(List.mem_filter.1 (List.mem_filter.1 h).1).1
inductive fM (k:Nat) (t:Int):BT→List zB→List zB→BT→List zB→Prop
 |stop {B:BT} {l:List zB} (h:jL k B (vM l t)=none):fM k t B l [] B l
 |step {B C D:BT} {l m done:List zB} {p:zB} (h:jL k B (vM l t)=some (p,C)) (h':fM k t C (jP l p.1) done D m):fM k t B l (p::done) D m
theorem yTe {k:Nat}(hk:100<k){B:BT}(h:qV B){l:List zB}(hl:l.length≤80):vl k B.1 B.2.1 B.2.2.1 B.2.2.2 l=some (oF B l):=vJ7 hk h hl
theorem yHv {k:Nat}(hk:100<k){B:BT}(h:qV B)(m:List zB)(hm:m.length≤1000):∀c i n,i+c=m.length→c<n→
  FE k n m.length i B.1 B.2.1 B.2.2.1 B.2.2.2 0 0 0 0 0 0 0 m = some (match jL k B (m.drop i) with
   |some (p,C)=>.inr (true,p.1,p.2.1,p.2.2.1,p.2.2.2.1,p.2.2.2.2.1,p.2.2.2.2.2.1,p.2.2.2.2.2.2,C.1,C.2.1,C.2.2.1,C.2.2.2)
   |none=>.inl (B.1,B.2.1,B.2.2.1,B.2.2.2,0,0,0,0,0,0,0))
 |0,i,n,e,hn=>by
  obtain⟨n,rfl⟩:∃x,n=x+1:=⟨n-1,by omega⟩
  have:i=m.length:=by omega
  subst this
  show Bi k _ m.length m.length B.1 B.2.1 B.2.2.1 B.2.2.2 0 0 0 0 0 0 0 m=_
  unfold Bi
  simp only[zU,aj (Nat.lt_irrefl _),ao,List.drop_length]
  rfl
 |c+1,i,n,e,hn=>by
  obtain⟨n,rfl⟩:∃x,n=x+1:=⟨n-1,by omega⟩
  have hi:i<m.length:=by omega
  have ih:=yHv hk h m hm c (i+1) n (by omega) (by omega)
  show Bi k _ m.length i B.1 B.2.1 B.2.2.1 B.2.2.2 0 0 0 0 0 0 0 m=_
  unfold Bi
  obtain⟨r,h1,h2,h3⟩:=Bg hk h (l:=[m.getD i pd]) (by simp)
  have hf:=yTe hk h (l:=[m.getD i pd]) (by simp)
  simp only[pd] at h1 hf
  simp only[qG,qO hi (show m.length<9223372036854775808 by omega),zU,aB,ai hi,av,hf,h1,ak]
  rw[qWu k B hi]
  unfold fu
  simp only[pd,h1]
  cases oF B [m.getD i (0,(0,(0,(0,(0,(0,0))))))] with
  |false=>
   simp only[dX,av,Bool.and_false,ao]
   exact ih
  |true=>
   simp only[aY,ao,Bool.and_true]
   cases decide (r.2.2.2.2=0) with
   |false=>exact ih
   |true=>rfl
def QY (B:BT)(x:Option (zB×BT)):Int×Int×Int×Int×Int×Int×Int×(List (Int×Int×Int))×(List (List Int))×(List Int)×(List (List Int))×Bool:=match x with
 |some (p,C)=>(p.1,p.2.1,p.2.2.1,p.2.2.2.1,p.2.2.2.2.1,p.2.2.2.2.2.1,p.2.2.2.2.2.2,C.1,C.2.1,C.2.2.1,C.2.2.2,true)
 |none=>(0,0,0,0,0,0,0,B.1,B.2.1,B.2.2.1,B.2.2.2,false)
theorem vC8 {k:Nat}(hk:100<k){B:BT}(h:qV B){l:List zB}(bP:l.length<k)(hl:qW l)(hd:qS l)(t:Int):JJ k B.1 B.2.1 B.2.2.1 B.2.2.2 l t=some (QY B (jL k B (vM l t))):=by
 unfold JJ
 rw[yRv bP hl hd]
 have Bj:=JI l t
 unfold qW at hl
 have:=yHv hk h (vM l t) (by omega) (vM l t).length 0 k (by omega) (by omega)
 have e:((0:Nat):Int)=0:=rfl
 rw[e,List.drop_zero] at this
 simp only[ak]
 rw[this]
 cases jL k B (vM l t) with
 |none=>rfl
 |some x=>rfl
theorem yL0 {k:Nat}(hk:100<k)(t:Int):∀(n:Nat) (B:BT) (l r:List zB),qV B→qS l→l.length≤100→l.length<n→r.length+l.length≤1000→
  ∃(C:BT) (m done:List zB),FF k n t l B.1 B.2.1 B.2.2.1 B.2.2.2 r=some (m,C.1,C.2.1,C.2.2.1,C.2.2.2,r++done)∧fM k t B l done C m∧qV C∧C.1.length=B.1.length∧List.Sublist m l
 |0,_,_,_,_,_,_,h,_=>absurd h (Nat.not_lt_zero _)
 |n+1,B,l,r,hb,hd,hl,hn,hr=>by
  have h1:=vC8 hk hb (l:=l) (by omega) (by show l.length≤1000;omega) hd t
  cases hx:jL k B (vM l t) with
  |none=>
   rw[hx] at h1
   refine⟨B,l,[],?_,.stop hx,hb,rfl,List.Sublist.refl _⟩
   show Bk k _ t l B.1 B.2.1 B.2.2.1 B.2.2.2 r=_
   unfold Bk
   rw[h1]
   simp only[ak,QY,dX,av,List.append_nil]
  |some x=>
   obtain⟨p,C⟩:=x
   rw[hx] at h1
   obtain⟨hp,hg⟩:=vu hx
   have ug:=Bh hp
   obtain⟨pc,lr⟩:=pV ug
   obtain⟨nb,cz⟩:=oG hk hb (by simp) hg
   obtain⟨D,m,done,g1,g3,g4,g5,g6⟩:=yL0 hk t n C (jP l p.1) (r++[p]) nb (List.Pairwise.sublist lr hd) (by omega) (by omega) (by rw[List.length_append];simp;omega)
   refine⟨D,m,p::done,?_,.step hx g3,g4,g5.trans cz,g6.trans lr⟩
   show Bk k _ t l B.1 B.2.1 B.2.2.1 B.2.2.2 r=_
   unfold Bk
   rw[h1]
   simp only[ak,QY,aY,ao,vq (show l.length<k by omega) (show qW l by show l.length≤1000;omega),kN (show r.length≤1000 by omega),av]
   rw[List.append_cons r p done,←g1]
   rfl
theorem yZq {k:Nat}(hk:200≤k){B:BT}(hb:qV B){l:List zB}(hd:qS l)(hl:l.length≤100)(t:Int):
  ∃(C:BT) (m done:List zB),JK k B.1 B.2.1 B.2.2.1 B.2.2.2 l t=some (C.1,C.2.1,C.2.2.1,C.2.2.2,m,done)∧fM k t B l done C m∧qV C∧C.1.length=B.1.length∧List.Sublist m l:=by
 obtain⟨C,m,done,h1,h3⟩:=yL0 (show 100<k by omega) t k B l [] hb hd hl (by omega) (by simp;omega)
 refine⟨C,m,done,?_,h3⟩
 unfold JK
 rw[h1]
 rfl
def ny (p q:zB):Bool:=decide (q.2.1=p.2.2.1)&&(decide (q.2.2.1=p.2.1)&& !decide (p.2.1≥q.2.1))
def mu (k:Nat)(B:BT)(p:zB):List zB→Option (zB×BT)
 |[]=>none
 |q::l=>match(bif ny p q then fu k B [p,q] else none) with
  |some C=>some (q,C)
  |none=>mu k B p l
def oH (k:Nat)(B:BT)(m:List zB):List zB→Option (zB×zB×BT)
 |[]=>none
 |p::l=>match mu k B p m with
  |some (q,C)=>some (p,q,C)
  |none=>oH k B m l
theorem QZ {k:Nat}{B C:BT}{p q:zB}:∀{l:List zB},mu k B p l=some (q,C)→q∈l∧ny p q=true∧fu k B [p,q]=some C
 |[],h=>by cases h
 |r::l,h=>by
  unfold mu at h
  cases hd:ny p r with
  |false=>
   rw[hd] at h
   have:=QZ (l:=l) h
   exact⟨List.mem_cons_of_mem _ this.1,this.2⟩
  |true=>
   rw[hd] at h
   simp only[av] at h
   cases hg:fu k B [p,r] with
   |some D=>
    rw[hg] at h
    cases h
    exact⟨List.mem_cons_self ..,hd,hg⟩
   |none=>
    rw[hg] at h
    have:=QZ (l:=l) h
    exact⟨List.mem_cons_of_mem _ this.1,this.2⟩
theorem JL {k:Nat}{B C:BT}{p q:zB}{m:List zB}:∀{l:List zB},oH k B m l=some (p,q,C)→p∈l∧q∈m∧ny p q=true∧fu k B [p,q]=some C
 |[],h=>by cases h
 |r::l,h=>by
  unfold oH at h
  cases hq:mu k B r m with
  |some x=>
   obtain⟨y,D⟩:=x
   rw[hq] at h
   cases h
   exact⟨List.mem_cons_self ..,QZ hq⟩
  |none=>
   rw[hq] at h
   have:=JL (l:=l) h
   exact⟨List.mem_cons_of_mem _ this.1,this.2⟩
theorem yRl {α:Type}{l:List α}{i:Nat}(h:i<l.length)(d:α):l.getD i d=l[i]:=by
 rw[List.getD_eq_getElem?_getD,List.getElem?_eq_getElem h];rfl
theorem yLm (k:Nat)(B:BT)(p:zB){m:List zB}{i:Nat}(hi:i<m.length):mu k B p (m.drop i)=match(bif ny p (m.getD i pd) then fu k B [p,m.getD i pd] else none) with
  |some C=>some (m.getD i pd,C)
  |none=>mu k B p (m.drop (i+1)):=by
 rw[List.drop_eq_getElem_cons hi,yRl hi]
 rfl
theorem yL1 (k:Nat)(B:BT)(r:List zB){m:List zB}{i:Nat}(hi:i<m.length):oH k B r (m.drop i)=match mu k B (m.getD i pd) r with
  |some (q,C)=>some (m.getD i pd,q,C)
  |none=>oH k B r (m.drop (i+1)):=by
 rw[List.drop_eq_getElem_cons hi,yRl hi]
 rfl
def eP (k:Nat)(B:BT)(l:List zB)(t:Int):Option (zB×zB×BT):=oH k B (vM l t) (vM l t)
theorem yXl {l:List zB}{x:Nat}{q:zB}(hx:x<l.length)(h:q∈l)(bn:q≠l.getD x pd):q∈yC l x:=by
 unfold yC
 have e:=Fs l x pd hx
 rw[e] at h
 rw[List.mem_append,List.mem_cons] at h
 rw[List.mem_append]
 rcases h with h|h|h
 ·exact .inl h
 ·exact absurd h bn
 ·exact .inr h
theorem qS.eq_of {l:List zB}(h:qS l){p q:zB}(hp:p∈l)(hq:q∈l)(e:p.1=q.1):p=q:=by
 obtain⟨i,hi,ei⟩:=List.getElem_of_mem hp
 obtain⟨j,hj,ej⟩:=List.getElem_of_mem hq
 have hl:=List.pairwise_iff_getElem.1 h
 by_cases c:i<j
 ·exact absurd (by rw[ei,ej];exact e) (hl i j hi hj c)
 ·by_cases c':j<i
  ·exact absurd (by rw[ei,ej];exact e.symm) (hl j i hj hi c')
  ·have:i=j:=by omega
   subst this
   rw[←ei,←ej]
theorem Q0 {l:List zB}{p q:zB}(hp:p∈l)(hq:q∈l)(bn:q.1≠p.1):q∈jP l p.1:=by
 obtain⟨x,hx⟩:=Js hp
 unfold jP gh
 rw[hx]
 have:=iL hx
 exact yXl this.1 hq (fun e=>bn (by rw[e];exact this.2))
def vv (l:List zB)(p q:zB):List zB:=jP (jP l p.1) q.1
theorem Bl {k:Nat}{B C:BT}{l:List zB}{t:Int}{p q:zB}(h:eP k B l t=some (p,q,C)):p∈l∧q∈l∧ny p q=true∧fu k B [p,q]=some C:=by
 obtain⟨h1,h2,h3⟩:=JL h
 exact⟨Bh h1,Bh h2,h3⟩
theorem yXd {l:List zB}(hd:qS l){p q:zB}(hp:p∈l)(hq:q∈l)(h:ny p q=true):q.1≠p.1:=by
 intro e
 have:=hd.eq_of hq hp e
 subst this
 unfold ny at h
 simp at h
theorem Bm {l:List zB}(hd:qS l){p q:zB}(hp:p∈l)(hq:q∈l)(h:ny p q=true):(vv l p q).length+2=l.length∧List.Sublist (vv l p q) l:=by
 obtain⟨h1,h2⟩:=pV hp
 obtain⟨h3,h4⟩:=pV (Q0 hp hq (yXd hd hp hq h))
 unfold vv
 exact⟨by omega,h4.trans h2⟩
inductive jE (k:Nat) (t:Int):BT→List zB→List zB→BT→List zB→Prop
 |stop {B:BT} {l:List zB} (h:eP k B l t=none):jE k t B l [] B l
 |step {B C D:BT} {l m done:List zB} {p q:zB} (h:eP k B l t=some (p,q,C)) (h':jE k t C (vv l p q) done D m):jE k t B l (p::q::done) D m
theorem jE.length {k:Nat}{t:Int}{B C:BT}{l done m:List zB}(h:jE k t B l done C m)(hd:qS l):done.length+m.length=l.length∧done.length%2=0:=by
 induction h with
 |stop _=>simp
 |step h _ ih=>
  obtain⟨hp,hq,mv,_⟩:=Bl h
  obtain⟨h1,h2⟩:=Bm hd hp hq mv
  have:=ih (List.Pairwise.sublist h2 hd)
  simp only[List.length_cons]
  omega
theorem jE.sub {k:Nat}{t:Int}{B C:BT}{l done m:List zB}(h:jE k t B l done C m)(hd:qS l):List.Sublist m l:=by
 induction h with
 |stop _=>exact List.Sublist.refl _
 |step h _ ih=>
  obtain⟨hp,hq,mv,_⟩:=Bl h
  obtain⟨h1,h2⟩:=Bm hd hp hq mv
  exact(ih (List.Pairwise.sublist h2 hd)).trans h2
theorem yI3 {k:Nat}(hk:100<k){B:BT}(h:qV B)(m:List zB)(hm:m.length≤1000)(p:zB)(dD cL:Int):∀c i n,i+c=m.length→c<n→
  FG k n dD cL m.length i B.1 B.2.1 B.2.2.1 B.2.2.2 0 0 0 0 0 0 0 0 0 0 0 0 0 0 m p.1 p.2.1 p.2.2.1 p.2.2.2.1 p.2.2.2.2.1 p.2.2.2.2.2.1 p.2.2.2.2.2.2 = some (match mu k B p (m.drop i) with
   |some (q,C)=>.inr (true,p.1,p.2.1,p.2.2.1,p.2.2.2.1,p.2.2.2.2.1,p.2.2.2.2.2.1,p.2.2.2.2.2.2,q.1,q.2.1,q.2.2.1,q.2.2.2.1,q.2.2.2.2.1,q.2.2.2.2.2.1,q.2.2.2.2.2.2,C.1,C.2.1,C.2.2.1,C.2.2.2)
   |none=>.inl (dD,cL,B.1,B.2.1,B.2.2.1,B.2.2.2,0,0,0,0,0,0,0,0,0,0,0,0,0,0,m))
 |0,i,n,e,hn=>by
  obtain⟨n,rfl⟩:∃x,n=x+1:=⟨n-1,by omega⟩
  have:i=m.length:=by omega
  subst this
  show Bn k _ dD cL m.length m.length B.1 B.2.1 B.2.2.1 B.2.2.2 0 0 0 0 0 0 0 0 0 0 0 0 0 0 m p.1 p.2.1 p.2.2.1 p.2.2.2.1 p.2.2.2.2.1 p.2.2.2.2.2.1 p.2.2.2.2.2.2=_
  unfold Bn
  simp only[zU,aj (Nat.lt_irrefl _),ao,List.drop_length]
  rfl
 |c+1,i,n,e,hn=>by
  obtain⟨n,rfl⟩:∃x,n=x+1:=⟨n-1,by omega⟩
  have hi:i<m.length:=by omega
  have ih:=yI3 hk h m hm p dD cL c (i+1) n (by omega) (by omega)
  show Bn k _ dD cL m.length i B.1 B.2.1 B.2.2.1 B.2.2.2 0 0 0 0 0 0 0 0 0 0 0 0 0 0 m p.1 p.2.1 p.2.2.1 p.2.2.2.1 p.2.2.2.2.1 p.2.2.2.2.2.1 p.2.2.2.2.2.2=_
  unfold Bn
  obtain⟨r,h1,h2,h3⟩:=Bg hk h (l:=[p,m.getD i pd]) (by simp)
  have hf:=yTe hk h (l:=[p,m.getD i pd]) (by simp)
  have cP:nq k B.1 B.2.1 B.2.2.1 B.2.2.2 [(p.1,p.2.1,p.2.2.1,p.2.2.2.1,p.2.2.2.2.1,p.2.2.2.2.2.1,p.2.2.2.2.2.2),m.getD i (0,(0,(0,(0,(0,(0,0))))))]=some r:=h1
  have dY:vl k B.1 B.2.1 B.2.2.1 B.2.2.2 [(p.1,p.2.1,p.2.2.1,p.2.2.2.1,p.2.2.2.2.1,p.2.2.2.2.2.1,p.2.2.2.2.2.2),m.getD i (0,(0,(0,(0,(0,(0,0))))))]=some (oF B [p,m.getD i pd]):=hf
  simp only[qG,qO hi (show m.length<9223372036854775808 by omega),zU,aB,ai hi,av,dY,cP,ak]
  rw[yLm k B p hi]
  unfold ny
  cases decide ((m.getD i pd).2.1=p.2.2.1) with
  |false=>exact ih
  |true=>
   cases decide ((m.getD i pd).2.2.1=p.2.1) with
   |false=>exact ih
   |true=>
    cases decide (p.2.1≥(m.getD i pd).2.1) with
    |true=>exact ih
    |false=>
     unfold fu
     rw[h1]
     simp only[aY,dX,Bool.and_true,av,ao]
     cases oF B [p,m.getD i pd] with
     |false=>
      simp only[dX,av,Bool.and_false,ao]
      exact ih
     |true=>
      simp only[aY,ao,Bool.and_true]
      cases decide (r.2.2.2.2=0) with
      |false=>exact ih
      |true=>rfl
theorem yL6 {k:Nat}(hk:100<k){B:BT}(h:qV B)(m:List zB)(hm:m.length≤1000)(FH:m.length<k):∀c i n,i+c=m.length→c<n→
  FI k n m.length i B.1 B.2.1 B.2.2.1 B.2.2.2 0 0 0 0 0 0 0 0 0 0 0 0 0 0 m = some (match oH k B m (m.drop i) with
   |some (p,q,C)=>.inr (true,p.1,p.2.1,p.2.2.1,p.2.2.2.1,p.2.2.2.2.1,p.2.2.2.2.2.1,p.2.2.2.2.2.2,q.1,q.2.1,q.2.2.1,q.2.2.2.1,q.2.2.2.2.1,q.2.2.2.2.2.1,q.2.2.2.2.2.2,C.1,C.2.1,C.2.2.1,C.2.2.2)
   |none=>.inl (0,0,0,0,0,0,0,0,0,0,0,0,0,0))
 |0,i,n,e,hn=>by
  obtain⟨n,rfl⟩:∃x,n=x+1:=⟨n-1,by omega⟩
  have:i=m.length:=by omega
  subst this
  show Bo k _ m.length m.length B.1 B.2.1 B.2.2.1 B.2.2.2 0 0 0 0 0 0 0 0 0 0 0 0 0 0 m=_
  unfold Bo
  simp only[zU,aj (Nat.lt_irrefl _),ao,List.drop_length]
  rfl
 |c+1,i,n,e,hn=>by
  obtain⟨n,rfl⟩:∃x,n=x+1:=⟨n-1,by omega⟩
  have hi:i<m.length:=by omega
  have ih:=yL6 hk h m hm FH c (i+1) n (by omega) (by omega)
  show Bo k _ m.length i B.1 B.2.1 B.2.2.1 B.2.2.2 0 0 0 0 0 0 0 0 0 0 0 0 0 0 m=_
  unfold Bo
  have dj:=yI3 hk h m hm (m.getD i pd) m.length i m.length 0 k (by omega) FH
  have e0:((0:Nat):Int)=0:=rfl
  rw[e0,List.drop_zero] at dj
  simp only[pd] at dj
  simp only[qG,zU,aB,ai hi,av]
  rw[dj]
  rw[yL1 k B m hi]
  simp only[pd]
  cases mu k B (m.getD i (0,(0,(0,(0,(0,(0,0))))))) m with
  |none=>
   simp only[ak,qO hi (show m.length<9223372036854775808 by omega)]
   exact ih
  |some x=>rfl
def Q1 (x:Option (zB×zB×BT)):Int×Int×Int×Int×Int×Int×Int×Int×Int×Int×Int×Int×Int×Int×(List (Int×Int×Int))×(List (List Int))×(List Int)×(List (List Int))×Bool:=match x with
 |some (p,q,C)=>(p.1,p.2.1,p.2.2.1,p.2.2.2.1,p.2.2.2.2.1,p.2.2.2.2.2.1,p.2.2.2.2.2.2,q.1,q.2.1,q.2.2.1,q.2.2.2.1,q.2.2.2.2.1,q.2.2.2.2.2.1,q.2.2.2.2.2.2,C.1,C.2.1,C.2.2.1,C.2.2.2,true)
 |none=>(0,0,0,0,0,0,0,0,0,0,0,0,0,0,[],[],[],[],false)
theorem vPo {k:Nat}(hk:100<k){B:BT}(h:qV B){l:List zB}(bP:l.length<k)(hl:qW l)(hd:qS l)(t:Int):JM k B.1 B.2.1 B.2.2.1 B.2.2.2 l t=some (Q1 (eP k B l t)):=by
 unfold JM eP
 rw[yRv bP hl hd]
 have Bj:=JI l t
 unfold qW at hl
 have:=yL6 hk h (vM l t) (by omega) (by omega) (vM l t).length 0 k (by omega) (by omega)
 have e:((0:Nat):Int)=0:=rfl
 rw[e,List.drop_zero] at this
 simp only[ak]
 rw[this]
 cases oH k B (vM l t) (vM l t) with
 |none=>rfl
 |some x=>rfl
theorem vHi {k:Nat}(hk:3≤k)(t:Int)(l:List zB)(hl:l.length≤1000)(yt:l.length<k)(C:BT)(r:List zB)(hr:r.length≤900)(p q:zB):
  pW k k t l 2 0 C.1 C.2.1 C.2.2.1 C.2.2.2 r [p,q]=some (t,vv l p q,C.1,C.2.1,C.2.2.1,C.2.2.2,r++[p,q]):=by
 obtain⟨n,rfl⟩:∃n,k=n+3:=⟨k-3,by omega⟩
 have h1:=vq yt (show qW l from hl) p.1
 have pc:(jP l p.1).length≤l.length:=by
  unfold jP gh
  cases hp:vN l p.1 with
  |none=>exact Nat.le_refl _
  |some x=>exact List.Sublist.length_le (pP l x)
 have h2:=vq (k:=n+3) (l:=jP l p.1) (by omega) (show(jP l p.1).length≤1000 by omega) q.1
 have e1:zW (r.length+1) 56=true:=kN (by omega)
 have e2:zW ((r++[p]).length+1) 56=true:=kN (by rw[List.length_append];simp;omega)
 show sN (n+3) (pW (n+3) (n+2)) t l 2 0 C.1 C.2.1 C.2.2.1 C.2.2.2 r [p,q]=_
 unfold sN
 have g0:[p,q].getD (Int.toNat 0) (0,(0,(0,(0,(0,(0,0))))))=p:=rfl
 have b0:zE 0 [p,q].length=true:=rfl
 have d0:decide ((0:Int)<2)=true:=rfl
 have w0:zA (0+1)=1:=by decide
 rw[d0,b0,g0,h1]
 simp only[av,ak,e1,w0]
 show sN (n+3) (pW (n+3) (n+1)) t (jP l p.1) 2 1 C.1 C.2.1 C.2.2.1 C.2.2.2 (r++[p]) [p,q]=_
 unfold sN
 have g1:[p,q].getD (Int.toNat 1) (0,(0,(0,(0,(0,(0,0))))))=q:=rfl
 have b1:zE 1 [p,q].length=true:=rfl
 have d1:decide ((1:Int)<2)=true:=rfl
 have w1:zA (1+1)=2:=by decide
 rw[d1,b1,g1,h2]
 simp only[av,ak,e2,w1]
 show sN (n+3) (pW (n+3) n) t (vv l p q) 2 2 C.1 C.2.1 C.2.2.1 C.2.2.2 (r++[p]++[q]) [p,q]=_
 unfold sN
 have d2:decide ((2:Int)<2)=false:=rfl
 rw[d2,List.append_assoc]
 rfl
theorem yEy {k:Nat}(hk:100<k)(t:Int):∀(n:Nat) (B:BT) (l r:List zB),qV B→qS l→l.length≤100→l.length<n→r.length+l.length≤900→
  ∃(C:BT) (m done:List zB),FJ k n t l B.1 B.2.1 B.2.2.1 B.2.2.2 r=some (m,C.1,C.2.1,C.2.2.1,C.2.2.2,r++done)∧jE k t B l done C m∧qV C∧C.1.length=B.1.length∧List.Sublist m l
 |0,_,_,_,_,_,_,h,_=>absurd h (Nat.not_lt_zero _)
 |n+1,B,l,r,hb,hd,hl,hn,hr=>by
  have h1:=vPo hk hb (l:=l) (by omega) (by show l.length≤1000;omega) hd t
  cases hx:eP k B l t with
  |none=>
   rw[hx] at h1
   refine⟨B,l,[],?_,.stop hx,hb,rfl,List.Sublist.refl _⟩
   show Bp k _ t l B.1 B.2.1 B.2.2.1 B.2.2.2 r=_
   unfold Bp
   rw[h1]
   simp only[ak,Q1,dX,av,List.append_nil]
  |some x=>
   obtain⟨p,q,C⟩:=x
   rw[hx] at h1
   obtain⟨hp,hq,mv,hg⟩:=Bl hx
   obtain⟨pc,lr⟩:=Bm hd hp hq mv
   obtain⟨nb,cz⟩:=oG hk hb (by simp) hg
   obtain⟨D,m,done,g1,g3,g4,g5,g6⟩:=yEy hk t n C (vv l p q) (r++[p,q]) nb (List.Pairwise.sublist lr hd) (by omega) (by omega) (by rw[List.length_append];simp;omega)
   have e2:r++[p,q]++done=r++p::q::done:=by rw[List.append_assoc];rfl
   refine⟨D,m,p::q::done,?_,.step hx g3,g4,g5.trans cz,g6.trans lr⟩
   show Bp k _ t l B.1 B.2.1 B.2.2.1 B.2.2.2 r=_
   unfold Bp
   rw[h1]
   have hL:=vHi (k:=k) (by omega) t l (by omega) (by omega) C r (by omega) p q
   simp only[ak,Q1,aY,ao]
   have hL':pW k k t l 2 0 C.1 C.2.1 C.2.2.1 C.2.2.2 r [(p.1,p.2.1,p.2.2.1,p.2.2.2.1,p.2.2.2.2.1,p.2.2.2.2.2.1,p.2.2.2.2.2.2),(q.1,q.2.1,q.2.2.1,q.2.2.2.1,q.2.2.2.2.1,q.2.2.2.2.2.1,q.2.2.2.2.2.2)]=_:=hL
   rw[hL']
   simp only[ak]
   rw[g1,e2]
theorem vHh {k:Nat}(hk:200≤k){B:BT}(hb:qV B){l:List zB}(hd:qS l)(hl:l.length≤100)(t:Int):
  ∃(C:BT) (m done:List zB),JN k B.1 B.2.1 B.2.2.1 B.2.2.2 l t=some (C.1,C.2.1,C.2.2.1,C.2.2.2,m,done)∧jE k t B l done C m∧qV C∧C.1.length=B.1.length∧List.Sublist m l:=by
 obtain⟨C,m,done,h1,h3⟩:=yEy (show 100<k by omega) t k B l [] hb hd hl (by omega) (by simp;omega)
 refine⟨C,m,done,?_,h3⟩
 unfold JN
 rw[h1]
 rfl
def jF (l:List zB)(f:Int):Nat:=(l.filter (vV f)).length
def kQ (l:List zB)(many:List Int)(i:Nat):Bool:=
 (decide ((l.getD i pd).2.1≥0)&&decide ((l.getD i pd).2.1<(many.length:Int)))&&decide (((jF (l.take i) (l.getD i pd).2.1:Nat):Int)<many.getD (l.getD i pd).2.1.toNat 0)
def ke (l:List zB)(many:List Int):Nat→List zB
 |0=>[]
 |i+1=>ke l many i++(bif kQ l many i then[l.getD i pd] else[])
def yX (l:List zB)(many:List Int):List zB:=ke l many l.length
theorem qVl (l:List zB)(many:List Int):∀N,N≤l.length→List.Sublist (ke l many N) (l.take N)
 |0,_=>by simp[ke]
 |N+1,h=>by
  rw[←ie l N pd h]
  unfold ke
  apply List.Sublist.append (qVl l many N (by omega))
  cases kQ l many N<;>simp
theorem sO (l:List zB)(many:List Int):List.Sublist (yX l many) l:=by
 have:=qVl l many l.length (Nat.le_refl _)
 rwa [List.take_length] at this
def pX (v w:List Int):Prop:=v.length=w.length∧∀i,i<w.length→v.getD i 0≤w.getD i 0
def jW (B:BT)(l:List zB):List Int:=sI B.1 B.2.1 B.2.2.1 B.2.2.2 l
def jO (s:List Int)(m:List Int):List Int:=s.foldl (fun m i=>m.set i.toNat (m.getD i.toNat 0-1)) m
theorem pY:∀(s m:List Int),(jO s m).length=m.length
 |[],_=>rfl
 |i::s,m=>by
  show(jO s (m.set i.toNat (m.getD i.toNat 0-1))).length=_
  rw[pY s,List.length_set]
theorem qYn:∀(s:List Nat) (m:List Int),s.Nodup→(∀i∈s,i<m.length)→∀j,(jO (s.map fun(x:Nat)=>(x:Int)) m).getD j 0=m.getD j 0-(if j∈s then 1 else 0)
 |[],m,_,_,j=>by simp[jO]
 |i::s,m,hs,hi,j=>by
  show(jO (s.map fun(x:Nat)=>(x:Int)) (m.set ((i:Int)).toNat (m.getD ((i:Int)).toNat 0-1))).getD j 0=_
  rw[aB,qYn s _ (List.nodup_cons.1 hs).2 (fun x hx=>by rw[List.length_set];exact hi x (List.mem_cons_of_mem _ hx)),wL]
  have h1:=hi i (List.mem_cons_self ..)
  have h2:=(List.nodup_cons.1 hs).1
  by_cases c:i=j
  ·subst c
   rw[if_pos ⟨rfl,h1⟩,if_neg h2,if_pos (List.mem_cons_self ..)]
   omega
  ·rw[if_neg (fun e=>c e.1)]
   by_cases d:j∈s
   ·rw[if_pos d,if_pos (List.mem_cons_of_mem _ d)]
   ·rw[if_neg d,if_neg (fun e=>by rcases List.mem_cons.1 e with e|e;exact c e.symm;exact d e)]
def Bq (B:BT)(l:List zB)(i:Nat):Bool:=wQ B.1 B.2.1 B.2.2.1 B.2.2.2 l i
theorem yUn (B:BT)(l:List zB){m:List Int}(hm:m.length=B.1.length)(j:Nat):(jO (jW B l) m).getD j 0=m.getD j 0-(if j<B.1.length∧Bq B l j=true then 1 else 0):=by
 have:=qYn ((List.range B.1.length).filter fun i=>Bq B l i) m (List.Nodup.sublist List.filter_sublist List.nodup_range) (fun i hi=>by have:=(List.mem_filter.1 hi).1;rw[List.mem_range] at this;omega) j
 unfold jW sI
 rw[show(fun i=>wQ B.1 B.2.1 B.2.2.1 B.2.2.2 l i)=fun i=>Bq B l i from rfl,this]
 congr 1
 by_cases c:j<B.1.length∧Bq B l j=true
 ·rw[if_pos c,if_pos (List.mem_filter.2 ⟨List.mem_range.2 c.1,c.2⟩)]
 ·rw[if_neg c,if_neg (fun e=>c ⟨List.mem_range.1 (List.mem_filter.1 e).1,(List.mem_filter.1 e).2⟩)]
theorem yVj {l:List zB}{many:List Int}{p:zB}:∀{N:Nat},p∈ke l many N→∃i,i<N∧l.getD i pd=p∧kQ l many i=true
 |0,h=>by cases h
 |N+1,h=>by
  unfold ke at h
  rw[List.mem_append] at h
  rcases h with h|h
  ·obtain⟨i,h1,h2⟩:=yVj h
   exact⟨i,by omega,h2⟩
  ·cases hh:kQ l many N with
   |true=>
    rw[hh] at h
    simp only[av,List.mem_singleton] at h
    exact⟨N,by omega,h.symm,hh⟩
   |false=>
    rw[hh] at h
    cases h
theorem vIs {B:BT}{l:List zB}(hl:∀q∈l,yL B.1.length q){m:List Int}{j:Nat}(h:Bq B (yX l m) j=true):1≤m.getD j 0:=by
 unfold Bq wQ at h
 rw[bN,Bool.not_eq_true'] at h
 have hn:=yJw (n:=B.1.length) (l:=yX l m) (fun q hq=>hl q ((sO l m).subset hq)) j
 rw[h.1] at hn
 obtain⟨x,hx,he⟩:=Jl.1 hn
 have hf:((yX l m).getD x pd).2.1=(j:Int):=by simpa using he
 obtain⟨i,h1,h2,h3⟩:=yVj (wS (d:=pd) hx)
 unfold kQ at h3
 have E5:(l.getD i pd)=(yX l m).getD x pd:=h2
 rw[E5,hf,aB] at h3
 rw[bN,bI] at h3
 omega
inductive iM (B:BT) (l:List zB):List Int→List Int→Nat→Prop
 |stop {m:List Int} (h:jW B (yX l m)=[]):iM B l m m 0
 |step {m f:List Int} {n:Nat} (h:jW B (yX l m)≠[]) (h':iM B l (jO (jW B (yX l m)) m) f n):iM B l m f (n+1)
theorem vDx {B:BT}{l:List zB}{m:List Int}(hm:m.length=B.1.length):pX (jO (jW B l) m) m:=by
 refine⟨pY _ _,fun i hi=>?_⟩
 rw[yUn B l hm]
 split<;>omega
theorem pX.trans {u v w:List Int}(h:pX u v)(h':pX v w):pX u w:=⟨h.1.trans h'.1,fun i hi=>Int.le_trans (h.2 i (by have:=h'.1;omega)) (h'.2 i hi)⟩
theorem pX.refl (v:List Int):pX v v:=⟨rfl,fun _ _=>Int.le_refl _⟩
theorem iM.le {B:BT}{l:List zB}{m f:List Int}{n:Nat}(h:iM B l m f n)(hm:m.length=B.1.length):pX f m:=by
 induction h with
 |stop _=>exact pX.refl _
 |step _ _ ih=>exact(ih ((pY _ _).trans hm)).trans (vDx hm)
theorem iM.final {B:BT}{l:List zB}{m f:List Int}{n:Nat}(h:iM B l m f n):jW B (yX l f)=[]:=by
 induction h with
 |stop h=>exact h
 |step _ _ ih=>exact ih
def mw (m:List Int):Prop:=∀i,0≤m.getD i 0
theorem JO {B:BT}{l:List zB}(hl:∀q∈l,yL B.1.length q){m:List Int}(hm:m.length=B.1.length)(h0:mw m):mw (jO (jW B (yX l m)) m):=by
 intro i
 rw[yUn B _ hm]
 have:=h0 i
 split
 ·rename_i c
  have:=vIs hl c.2
  omega
 ·omega
theorem iM.nonneg {B:BT}{l:List zB}(hl:∀q∈l,yL B.1.length q){m f:List Int}{n:Nat}(h:iM B l m f n)(hm:m.length=B.1.length)(h0:mw m):mw f:=by
 induction h with
 |stop _=>exact h0
 |step _ _ ih=>exact ih ((pY _ _).trans hm) (JO hl hm h0)
def kR (m:List Int):Int:=zR (fun x=>x) m
theorem yB3:∀(m:List Int) (i:Nat) (x:Int),i<m.length→kR (m.set i x)=kR m-m.getD i 0+x
 |[],i,x,h=>absurd h (Nat.not_lt_zero _)
 |y::m,0,x,_=>by
  show x+kR m=y+kR m-y+x
  omega
 |y::m,i+1,x,h=>by
  show y+kR (m.set i x)=y+kR m-m.getD i 0+x
  rw[yB3 m i x (by simpa using h)]
  omega
theorem yGq:∀(s m:List Int),(∀i∈s,0≤i∧i<(m.length:Int))→kR (jO s m)=kR m-s.length
 |[],m,_=>by simp[jO]
 |i::s,m,h=>by
  have hi:=h i (List.mem_cons_self ..)
  show kR (jO s (m.set i.toNat (m.getD i.toNat 0-1)))=_
  rw[yGq s _ (fun x hx=>by rw[List.length_set];exact h x (List.mem_cons_of_mem _ hx)),yB3 _ _ _ (by omega)]
  simp only[List.length_cons]
  omega
theorem Q2 {B:BT}{l:List zB}:∀i∈jW B l,0≤i∧i<(B.1.length:Int):=by
 intro i hi
 obtain⟨x,hx,rfl⟩:=List.mem_map.1 hi
 have:=List.mem_range.1 (List.mem_filter.1 hx).1
 omega
theorem yVl:∀{m:List Int},mw m→0≤kR m
 |[],_=>Int.le_refl 0
 |x::m,h=>by
  have h1:0≤x:=h 0
  have h2:=yVl (m:=m) (fun i=>h (i+1))
  show 0≤x+kR m
  omega
theorem qX9 {B:BT}{l:List zB}(hl:∀q∈l,yL B.1.length q):∀(N:Nat) (m:List Int),m.length=B.1.length→mw m→kR m≤N→∃f n,iM B l m f n∧n≤N
 |N,m,hm,h0,hN=>by
  by_cases c:jW B (yX l m)=[]
  ·exact⟨m,0,.stop c,Nat.zero_le _⟩
  ·have ht:=yGq (jW B (yX l m)) m (by rw[hm];exact Q2)
   have hp:0<(jW B (yX l m)).length:=List.length_pos_iff.2 c
   have h1:=JO hl hm h0
   have h2:=yVl h1
   obtain⟨N,rfl⟩:∃x,N=x+1:=⟨N-1,by omega⟩
   obtain⟨f,n,h3,h4⟩:=qX9 hl N _ ((pY _ _).trans hm) h1 (by omega)
   exact⟨f,n+1,.step c h3,by omega⟩
theorem Q3 (l:List zB)(many:List Int):∀N,(ke l many N).length≤N
 |0=>Nat.le_refl _
 |N+1=>by
  unfold ke
  rw[List.length_append]
  have:=Q3 l many N
  cases kQ l many N<;>simp<;>omega
theorem yXn (l:List zB)(i:Nat)(hi:i<l.length)(f:Int):jF (l.take (i+1)) f=jF (l.take i) f+(if(l.getD i pd).2.1=f then 1 else 0):=by
 unfold jF
 rw[vm _ _ _ pd hi,List.length_append]
 unfold vV
 by_cases c:(l.getD i pd).2.1=f
 ·rw[if_pos c,ai c];rfl
 ·rw[if_neg c,aj c];rfl
def fN (l:List zB)(n:Nat):List Int:=(List.range n).map fun(i:Nat)=>((jF l i:Nat):Int)
theorem yPo (l:List zB)(i:Nat):fN l (i+1)=fN l i++[((jF l i:Nat):Int)]:=by
 unfold fN
 rw[List.range_succ,List.map_append];rfl
theorem sP (l:List zB)(n:Nat):(fN l n).length=n:=by
 unfold fN;simp
theorem FK:∀(s m:List Int) (i:Nat),m.getD i 0-s.length≤(jO s m).getD i 0∧(jO s m).getD i 0≤m.getD i 0
 |[],m,i=>by simp[jO]
 |x::s,m,i=>by
  have h:=FK s (m.set x.toNat (m.getD x.toNat 0-1)) i
  rw[wL] at h
  have e:jO (x::s) m=jO s (m.set x.toNat (m.getD x.toNat 0-1)):=rfl
  rw[e,List.length_cons]
  by_cases c:x.toNat=i∧x.toNat<m.length
  ·rw[if_pos c,c.1] at h
   rw[c.1]
   omega
  ·rw[if_neg c] at h
   omega
theorem yIk (s m:List Int)(i:Nat)(hi:i<s.length):jO (s.take (i+1)) m=(jO (s.take i) m).set (s.getD i 0).toNat ((jO (s.take i) m).getD (s.getD i 0).toNat 0-1):=by
 unfold jO
 rw[←ie s i 0 hi,List.foldl_append]
 rfl
theorem yAn (g:Nat→Int):∀n,zR (fun x=>x) ((List.range n).map g)=qM g n
 |0=>rfl
 |n+1=>by
  rw[List.range_succ,List.map_append,j9,yAn g n]
  show qM g n+(g n+0)=qM g n+g n
  omega
theorem vCu (l:List zB)(f:Int):((jF l f:Nat):Int)=zR (fun p:zB=>if p.2.1=f then 1 else 0) l:=by
 induction l with
 |nil=>rfl
 |cons p l ih=>
  unfold jF vV at*
  show _=(if p.2.1=f then(1:Int) else 0)+zR _ l
  rw[←ih,List.filter_cons]
  by_cases c:p.2.1=f
  ·rw[if_pos c,ai c,if_pos rfl,List.length_cons];omega
  ·rw[if_neg c,aj c,if_neg (by simp)];omega
theorem vI3 (l:List zB)(n:Nat):kR (fN l n)≤l.length:=by
 unfold kR fN
 rw[yAn (fun i:Nat=>((jF l i:Nat):Int)) n,lE (h:=fun j=>zR (fun p:zB=>if p.2.1=(j:Int) then 1 else 0) l) (fun j _=>vCu l j),IK]
 have := (yx (A := 1) (l := l) (g := fun p : zB => qM (fun j => if p.2.1 = (j : Int) then 1 else 0) n) (fun p _=>by
  by_cases c:0≤p.2.1
  ·obtain⟨f,hf⟩:∃f:Nat,p.2.1=f:=⟨p.2.1.toNat,by omega⟩
   have e:qM (fun j=>if p.2.1=(j:Int) then(1:Int) else 0) n=qM (fun j=>if j=f then 1 else 0) n:=lE fun j _=>by
    rw[hf]
    by_cases d:j=f
    ·rw[if_pos d,if_pos (by omega)]
    ·rw[if_neg d,if_neg (by omega)]
   rw[e,uY]
   split<;>omega
  ·have e:qM (fun j=>if p.2.1=(j:Int) then(1:Int) else 0) n=qM (fun _=>0) n:=lE fun j _=>if_neg (by omega)
   rw[e,P2]
   omega)).2
 omega
theorem yHg (l:List zB)(n i:Nat):(fN l n).getD i 0=if i<n then((jF l i:Nat):Int) else 0:=by
 unfold fN
 by_cases c:i<n
 ·rw[if_pos c,List.getD_eq_getElem?_getD,List.getElem?_eq_getElem (by simpa using c)]
  simp
 ·rw[if_neg c,List.getD_eq_getElem?_getD,List.getElem?_eq_none (by simpa using c)]
  rfl
theorem vF0 (l:List zB)(f:Int):jF l f≤l.length:=List.length_filter_le _ _
theorem JP {l:List zB}(hl:l.length≤1000)(n:Nat):mw (fN l n)∧∀i,(fN l n).getD i 0≤1000:=by
 refine⟨fun i=>?_,fun i=>?_⟩
 ·rw[yHg];split<;>omega
 ·rw[yHg]
  have:=vF0 l i
  split<;>omega
theorem JQ {B:BT}{l:List zB}(hl:∀q∈l,yL B.1.length q)(cd:l.length≤64)(m:List Int):vS B.1.length (yX l m):=
 ⟨fun p hp=>hl p ((sO l m).subset hp),by have:=(sO l m).length_le;omega⟩
def yT (l:List zB)(t:Int):List zB:=l.filter (ij t)
theorem JR {n:Nat}{l:List zB}{t:Int}(h:∀q∈l,yL n q):∀q∈yT l t,yL n q:=fun q hq=>h q (List.mem_filter.1 hq).1
theorem sQ (l:List zB)(t:Int):(yT l t).length≤l.length:=List.length_filter_le _ _
theorem Q4 {B:BT}(hb:qV B){l:List zB}(hl:∀q∈l,yL B.1.length q)(cd:l.length≤64)(t:Int):
  ∃f n,iM B (yT l t) (fN (yT l t) B.1.length) f n∧n≤(yT l t).length:=by
 have h1:=JP (l:=yT l t) (by have:=sQ l t;omega) B.1.length
 have h2:=vI3 (yT l t) B.1.length
 exact qX9 (JR hl) (yT l t).length _ (sP _ _) h1.1 (by omega)
def my (l:List zB)(hs:List zB):List zB:=hs.foldl (fun l p=>jP l p.1) l
theorem vRk (l:List zB)(id:Int):(jP l id).length≤l.length∧List.Sublist (jP l id) l:=by
 unfold jP gh
 cases vN l id with
 |none=>exact⟨Nat.le_refl _,List.Sublist.refl _⟩
 |some x=>exact⟨(pP l x).length_le,pP l x⟩
theorem JS:∀(hs l:List zB),(my l hs).length≤l.length∧List.Sublist (my l hs) l
 |[],l=>⟨Nat.le_refl _,List.Sublist.refl _⟩
 |p::hs,l=>by
  obtain⟨h1,h2⟩:=JS hs (jP l p.1)
  obtain⟨h3,h4⟩:=vRk l p.1
  exact⟨Nat.le_trans h1 h3,h2.trans h4⟩
theorem yC3 (l hs:List zB)(i:Nat)(hi:i<hs.length):my l (hs.take (i+1))=jP (my l (hs.take i)) (hs.getD i pd).1:=by
 unfold my
 rw[←ie hs i pd hi,List.foldl_append]
 rfl
def Br (B:BT)(l hs:List zB)(r:List qN×List (List Int)×List Int×List (List Int)×Int):(List (Int×Int×Int))×(List (List Int))×(List Int)×(List (List Int))×(List zB)×(List zB):=
 bif !(decide (r.2.2.2.2=0)) then(B.1,B.2.1,B.2.2.1,B.2.2.2,l,[]) else(r.1,r.2.1,r.2.2.1,r.2.2.2.1,my l hs,hs)
theorem Q5 {k:Nat}{l:List zB}(hk:l.length<k)(hl:qW l){many:List Int}(h0:mw many)(hm:∀i,many.getD i 0≤1000)(Bj:many.length≤1000):Bt k l many=some (yX l many):=by
 unfold qW at hl
 unfold Bt Q6 Q7
 rw[yE (by omega) (by omega)]
 simp only[av,ak]
 obtain ⟨s', h1, h2, h3, h4⟩ := vF (L := fun n i (s : List Int × List zB) => Bu k n l l.length i s.1 s.2) (N := l.length) (fun s => s) (fun i s => s.1.length = many.length ∧ (∀ f : Nat, f < many.length → s.1.getD f 0 = if many.getD f 0 ≤ (jF (l.take i) f : Nat) then 0 else many.getD f 0 - (jF (l.take i) f : Nat)) ∧ s.2 = ke l many i) (fun n s _=>by
  show Bv k _ l l.length l.length s.1 s.2=_
  unfold Bv
  simp only [zU, aj (Nat.lt_irrefl _), ao]) (fun n i s hi hs=>by
  obtain⟨s1,s2,s3⟩:=hs
  have eM:s.2.length≤i:=by rw[s3];exact Q3 l many i
  show∃s',Bv k _ l l.length i s.1 s.2=_∧_
  unfold Bv Q8
  simp only[qG,qO hi (show l.length<9223372036854775808 by omega),zU,aB,ai hi,av,kN (show s.2.length≤1000 by omega)]
  have lC:=fun f=>yXn l i hi f
  have uE:∀f:Nat,f<many.length→(l.getD i pd).2.1≠(f:Int)→(if many.getD f 0≤(jF (l.take (i+1)) f:Nat) then(0:Int) else many.getD f 0-(jF (l.take (i+1)) f:Nat))=if many.getD f 0≤(jF (l.take i) f:Nat) then 0 else many.getD f 0-(jF (l.take i) f:Nat):=by
   intro f hf bn
   rw[lC f,if_neg bn,Nat.add_zero]
  have skip:kQ l many i=false→(∀f:Nat,f<many.length→(l.getD i pd).2.1=(f:Int)→many.getD f 0≤(jF (l.take i) f:Nat))→(s.1.length=many.length∧(∀f:Nat,f<many.length→s.1.getD f 0=if many.getD f 0≤(jF (l.take (i+1)) f:Nat) then 0 else many.getD f 0-(jF (l.take (i+1)) f:Nat))∧s.2=ke l many (i+1)):=by
   intro hh hz
   refine⟨s1,fun f hf=>?_,?_⟩
   ·by_cases c:(l.getD i pd).2.1=(f:Int)
    ·have:=hz f hf c
     rw[s2 f hf,if_pos this,lC f,if_pos c,if_pos (by omega)]
    ·rw[uE f hf c,s2 f hf]
   ·show _=ke l many i++_
    rw[hh,s3];simp
  cases e1:decide ((l.getD i pd).2.1<0) with
  |true=>
   refine⟨s,rfl,skip ?_ ?_⟩
   ·unfold kQ
    rw[bI] at e1
    rw[aj (show¬(l.getD i pd).2.1≥0 by omega)];rfl
   ·intro f hf c
    rw[bI] at e1
    omega
  |false=>
   cases e2:decide ((l.getD i pd).2.1≥((s.1.length:Nat):Int)) with
   |true=>
    refine⟨s,rfl,skip ?_ ?_⟩
    ·unfold kQ
     rw[bI] at e2
     rw[aj (show¬(l.getD i pd).2.1<(many.length:Int) by omega),Bool.and_false];rfl
    ·intro f hf c
     rw[bI] at e2
     omega
   |false=>
    rw[decide_eq_false_iff_not] at e1 e2
    obtain⟨f,hf⟩:∃f:Nat,(l.getD i pd).2.1=f:=⟨(l.getD i pd).2.1.toNat,by omega⟩
    have HS:f<many.length:=by omega
    have dY:(l.getD i (0,(0,(0,(0,(0,(0,0))))))).2.1=f:=hf
    simp only[ao,dY,qG,aB,s1,ai HS,av]
    have po:kQ l many i=decide (((jF (l.take i) f:Nat):Int)<many.getD f 0):=by
     unfold kQ
     rw[hf,ai (show(f:Int)≥0 by omega),ai (show(f:Int)<(many.length:Int) by omega),aB]
     rfl
    have kf:=s2 f HS
    cases e3:decide (s.1.getD f 0<1) with
    |true=>
     rw[bI,kf] at e3
     have hle:many.getD f 0≤(jF (l.take i) f:Nat):=by
      by_cases c:many.getD f 0≤(jF (l.take i) f:Nat)
      ·exact c
      ·rw[if_neg c] at e3;omega
     refine⟨s,rfl,skip (by rw[po];exact aj (by omega)) ?_⟩
     intro g hg c
     have:g=f:=by omega
     subst this
     exact hle
    |false=>
     rw[decide_eq_false_iff_not] at e3
     have hgt:¬many.getD f 0≤(jF (l.take i) f:Nat):=by
      intro c
      rw[kf,if_pos c] at e3
      omega
     rw[if_neg hgt] at kf
     have nf:=hm f
     have hw:zA (s.1.getD f 0-1)=s.1.getD f 0-1:=zV (by omega) (by omega)
     refine⟨(s.1.set f (s.1.getD f 0-1),s.2++[l.getD i pd]),?_,?_,?_,?_⟩
     ·simp only[ao,ak,av,hw]
     ·rw[List.length_set];exact s1
     ·intro g hg
      rw[wL]
      by_cases c:f=g
      ·subst c
       rw[if_pos ⟨rfl,by omega⟩,lC f,if_pos hf,kf]
       by_cases d:many.getD f 0≤((jF (l.take i) f+1:Nat):Int)
       ·rw[if_pos d];omega
       ·rw[if_neg d];omega
      ·rw[if_neg (fun e=>c e.1),uE g hg (by omega)]
       exact s2 g hg
     ·show s.2++[l.getD i pd]=ke l many i++_
      rw[po,ai (by omega),s3];rfl) (s:=(many,[])) hk ⟨rfl,fun f hf=>by
   have:(jF (l.take 0) f:Nat)=0:=rfl
   have h0f:=h0 f
   rw[this]
   by_cases c:many.getD f 0≤((0:Nat):Int)
   ·rw[if_pos c]
    show many.getD f 0=0
    omega
   ·rw[if_neg c]
    show many.getD f 0=_
    omega,rfl⟩
 have cP:Bu k k l l.length 0 many []=some s':=h1
 rw[cP]
 simp only[ak,h4]
 rfl
theorem yJp {k:Nat}{l:List zB}(hk:l.length<k)(hl:qW l)(f:Int):FL k l f=some (l.filter (vV f)):=by
 unfold FL Q9
 have := Fj pd (L := fun n i s => FM k n l l.length i f s) (vV f) id (fun n s=>by
  show Bw k _ l l.length l.length f s=_
  unfold Bw
  simp only [zU, aj (Nat.lt_irrefl _), ao]; rfl) (fun n i s hi hs=>by
  show Bw k _ l l.length i f s=_
  unfold Bw Ra
  unfold qW at hl
  simp only[qG,qO hi (show l.length<9223372036854775808 by omega),zU,aB,ai hi,av,kN (show s.length≤1000 by omega)]
  unfold vV
  cases h1:decide ((l.getD i pd).2.1=f)<;>rfl) hk
 rw[this]
 rfl
theorem vRh {k:Nat}{B:BT}{l:List zB}(hk:l.length<k)(hl:qW l)(hn:B.1.length<k)(hn':B.1.length≤1000)(s7:Int):
  vw k k s7 B.1.length 0 B.1 B.2.1 B.2.2.1 B.2.2.2 [] l=some (s7,B.1,B.2.1,B.2.2.1,B.2.2.2,fN l B.1.length,l):=by
 obtain ⟨s', h1, h2⟩ := vF (L := fun n i (s : List Int) => vw k n s7 B.1.length i B.1 B.2.1 B.2.2.1 B.2.2.2 s l) (N := B.1.length) (fun s => (s7, B.1, B.2.1, B.2.2.1, B.2.2.2, s, l)) (fun i s => s = fN l i) (fun n s _=>by
  show Bx k _ s7 B.1.length B.1.length B.1 B.2.1 B.2.2.1 B.2.2.2 s l=_
  unfold Bx
  simp only [zU, aj (Nat.lt_irrefl _), ao]) (fun n i s hi hs=>by
  refine⟨_,?_,(yPo l i).symm⟩
  show Bx k _ s7 B.1.length i B.1 B.2.1 B.2.2.1 B.2.2.2 s l=_
  unfold Bx
  have hr:zW (s.length+1) 8=true:=by rw[hs,sP];exact yE (by omega) (by omega)
  simp only[zU,ai hi,av,yJp hk hl,ak,hr,qO hi (show B.1.length<9223372036854775808 by omega)]
  rw[hs]
  rfl) (s:=[]) hn rfl
 exact h1.trans (by rw[h2])
theorem vLo {k:Nat}{B:BT}{l:List zB}{s m:List Int}(hk:s.length<k)(hs:s.length≤1000)(dj:∀x∈s,0≤x∧x<(m.length:Int))(h0:mw m)(hm:∀i,m.getD i 0≤1000)(s7:Int):
  By k k s7 s.length 0 B.1 B.2.1 B.2.2.1 B.2.2.2 m l s=some (s7,B.1,B.2.1,B.2.2.1,B.2.2.2,jO s m,l):=by
 obtain ⟨s', h1, h2⟩ := vF (L := fun n i (r : List Int) => By k n s7 s.length i B.1 B.2.1 B.2.2.1 B.2.2.2 r l s) (N := s.length) (fun r => (s7, B.1, B.2.1, B.2.2.1, B.2.2.2, r, l)) (fun i r => r = jO (s.take i) m) (fun n r _=>by
  show Bz k _ s7 s.length s.length B.1 B.2.1 B.2.2.1 B.2.2.2 r l s=_
  unfold Bz
  simp only [zU, aj (Nat.lt_irrefl _), ao]) (fun n i r hi hr=>by
  refine⟨_,?_,(yIk s m i hi).symm⟩
  show Bz k _ s7 s.length i B.1 B.2.1 B.2.2.1 B.2.2.2 r l s=_
  unfold Bz
  obtain⟨b1,b2⟩:=dj _ (wS (d:=0) hi)
  have rQ:r.length=m.length:=by rw[hr,pY]
  have hb:zE (s.getD i 0) r.length=true:=uX b1 (by omega)
  have PZ:=FK (s.take i) m (s.getD i 0).toNat
  have D2:=h0 (s.getD i 0).toNat
  have nf:=hm (s.getD i 0).toNat
  have aU:(s.take i).length≤s.length:=List.length_take_le' _ _
  have hw:zA (r.getD (s.getD i 0).toNat 0-1)=r.getD (s.getD i 0).toNat 0-1:=by
   rw[hr]
   exact zV (by omega) (by omega)
  simp only[zU,qG,aB,ai hi,av,hb,hw,qO hi (show s.length<9223372036854775808 by omega)]
  rw[hr]) (s:=m) hk rfl
 have:=h1.trans (by rw[h2,List.take_length])
 exact this
theorem vBu {k:Nat}(hk:100<k){B:BT}(hb:qV B){l:List zB}(hl:∀q∈l,yL B.1.length q)(cd:l.length≤64){m f:List Int}{n:Nat}(h:iM B l m f n):
  ∀(N:Nat) (s7:Int),m.length=B.1.length→mw m→(∀i,m.getD i 0≤1000)→n<N→0≤s7→s7+n<1000000→
  FN k N s7 B.1 B.2.1 B.2.2.1 B.2.2.2 m l=some (s7+n+1,f):=by
 induction h with
 |@stop m h=>
  intro N s7 hm h0 h1 hn hs rZ
  obtain⟨N,rfl⟩:∃x,N=x+1:=⟨N-1,by omega⟩
  have eY:=hb.n6
  show BA k _ s7 B.1 B.2.1 B.2.2.1 B.2.2.2 m l=_
  unfold BA
  have hS:=Qw hk hb (JQ hl cd m)
  have lv:vk k B.1 B.2.1 B.2.2.1 B.2.2.2 (yX l m)=some (jW B (yX l m)):=hS
  rw[Q5 (by omega) (show qW l by show l.length≤1000;omega) h0 h1 (by omega)]
  simp only[ak]
  rw[lv,h]
  simp only[ak]
  have w:zA (s7+1)=s7+1:=zV (by omega) (by omega)
  rw[w]
  simp
 |@step m f n h h' ih=>
  intro N s7 hm h0 h1 hn hs rZ
  obtain⟨N,rfl⟩:∃x,N=x+1:=⟨N-1,by omega⟩
  have eY:=hb.n6
  show BA k _ s7 B.1 B.2.1 B.2.2.1 B.2.2.2 m l=_
  unfold BA
  have hS:=Qw hk hb (JQ hl cd m)
  have lv:vk k B.1 B.2.1 B.2.2.1 B.2.2.2 (yX l m)=some (jW B (yX l m)):=hS
  rw[Q5 (by omega) (show qW l by show l.length≤1000;omega) h0 h1 (by omega)]
  simp only[ak]
  rw[lv]
  simp only[ak]
  have w:zA (s7+1)=s7+1:=zV (by omega) (by omega)
  have bn : decide ((((jW B (yX l m)).length : Nat) : Int) = 0) = false := aj (by
   have:=List.length_pos_iff.2 h
   omega)
  have eM:(jW B (yX l m)).length≤B.1.length:=by
   unfold jW sI
   rw[List.length_map]
   have:=List.length_filter_le (fun i=>wQ B.1 B.2.1 B.2.2.1 B.2.2.2 (yX l m) i) (List.range B.1.length)
   rwa [List.length_range] at this
  rw[bn,w]
  simp only[ao]
  rw[vLo (by omega) (by omega) (by rw[hm];exact Q2) h0 h1]
  simp only[ak]
  have Rb:=JO hl hm h0
  have:=ih N (s7+1) ((pY _ _).trans hm) Rb (fun i=>by have:=(FK (jW B (yX l m)) m i).2;have:=h1 i;omega) (by omega) (by omega) (by omega)
  rw[this]
  congr 2
  omega
theorem vEn {k:Nat}(hk:100<k){B:BT}(hb:qV B){l:List zB}(hl:∀q∈l,yL B.1.length q)(cd:l.length≤64)(t:Int){f:List Int}{n:Nat}(hn:n≤l.length)(h:iM B (yT l t) (fN (yT l t) B.1.length) f n):
  JT k B.1 B.2.1 B.2.2.1 B.2.2.2 l t=some (f,((n+1:Nat):Int)):=by
 have eY:=hb.n6
 have hr:=sQ l t
 have h1:=JP (l:=yT l t) (by omega) B.1.length
 unfold JT
 rw[Qz (by omega) (by show l.length≤1000;omega)]
 simp only[ak]
 have e:vw k k 0 B.1.length 0 B.1 B.2.1 B.2.2.1 B.2.2.2 [] (l.filter (ij t))=_:=vRh (k:=k) (B:=B) (l:=yT l t) (by omega) (by show(yT l t).length≤1000;omega) (by omega) (by omega) 0
 rw[e]
 simp only[ak]
 rw[vBu hk hb (JR hl) (by omega) h k 0 (sP _ _) h1.1 h1.2 (by omega) (by omega) (by omega)]
 simp
theorem vIo {k:Nat}{C:BT}{l hs:List zB}(hl:l.length<k)(eg:l.length≤1000)(hk:hs.length<k)(hh:hs.length≤1000):
  vx k k l hs.length 0 C.1 C.2.1 C.2.2.1 C.2.2.2 hs=some (my l hs,C.1,C.2.1,C.2.2.1,C.2.2.2,hs):=by
 obtain ⟨s', h1, h2⟩ := vF (L := fun n i (s : List zB) => vx k n s hs.length i C.1 C.2.1 C.2.2.1 C.2.2.2 hs) (N := hs.length) (fun s => (s, C.1, C.2.1, C.2.2.1, C.2.2.2, hs)) (fun i s => s = my l (hs.take i)) (fun n s _=>by
  show BB k _ s hs.length hs.length C.1 C.2.1 C.2.2.1 C.2.2.2 hs=_
  unfold BB
  simp only [zU, aj (Nat.lt_irrefl _), ao]) (fun n i s hi hr=>by
  refine⟨_,?_,(yC3 l hs i hi).symm⟩
  show BB k _ s hs.length i C.1 C.2.1 C.2.2.1 C.2.2.2 hs=_
  unfold BB
  have eM:=(JS (hs.take i) l).1
  rw[←hr] at eM⊢
  simp only[zU,qG,aB,ai hi,av,vq (show s.length<k by omega) (show qW s by show s.length≤1000;omega),ak,qO hi (show hs.length<9223372036854775808 by omega)]
  rfl) (s:=l) hk rfl
 have:=h1.trans (by rw[h2,List.take_length])
 exact this
theorem Rc {k:Nat}(hk:100<k){B:BT}(hb:qV B){l:List zB}(hl:∀q∈l,yL B.1.length q)(cd:l.length≤64)(t:Int){f:List Int}{n:Nat}(hn:n≤l.length)(h:iM B (yT l t) (fN (yT l t) B.1.length) f n)
  {r:List qN×List (List Int)×List Int×List (List Int)×Int} (hr:nq k B.1 B.2.1 B.2.2.1 B.2.2.2 (yX (yT l t) f)=some r):vy k B.1 B.2.1 B.2.2.1 B.2.2.2 l t=some (Br B l (yX (yT l t) f) r):=by
 have eY:=hb.n6
 have rQ:=sQ l t
 have h1:=JP (l:=yT l t) (by omega) B.1.length
 have hle:=h.le (sP _ _)
 have h0:=h.nonneg (JR hl) (sP _ _) h1.1
 have HS:f.length=B.1.length:=hle.1.trans (sP _ _)
 have hf:∀i,f.getD i 0≤1000:=fun i=>by
  by_cases c:i<(fN (yT l t) B.1.length).length
  ·have:=hle.2 i c
   have:=h1.2 i
   omega
  ·rw[List.getD_eq_getElem?_getD,List.getElem?_eq_none (by have:=hle.1;omega)]
   show(0:Int)≤1000
   omega
 have JU:=(sO (yT l t) f).length_le
 unfold vy
 rw[vEn hk hb hl cd t hn h,Qz (by omega) (by show l.length≤1000;omega)]
 simp only[ak]
 have e:Bt k (l.filter (ij t)) f=_:=Q5 (k:=k) (l:=yT l t) (by omega) (by show(yT l t).length≤1000;omega) h0 hf (by omega)
 rw[e]
 simp only[ak]
 rw[hr]
 simp only[ak]
 unfold Br
 cases decide (r.2.2.2.2=0) with
 |false=>rfl
 |true=>
  simp only[aY,ao]
  have e2:vx k k l ((List.length (yX (yT l t) f):Nat):Int) 0 r.1 r.2.1 r.2.2.1 r.2.2.2.1 (yX (yT l t) f)=_:=vIo (C:=(r.1,r.2.1,r.2.2.1,r.2.2.2.1)) (by omega) (by omega) (by omega) (by omega)
  rw[e2]
  rfl
theorem yZt {l:List zB}{x:Nat}(hx:x<l.length):List.Perm (l.getD x pd::yC l x) l:=by
 unfold yC
 have h:List.Perm (l.getD x pd::(l.take x++l.drop (x+1))) (l.take x++l.getD x pd::l.drop (x+1)):=List.perm_middle.symm
 have e:=Fs l x pd hx
 rw[←e] at h
 exact h
theorem JV {l:List zB}(hd:qS l){p:zB}(hp:p∈l):List.Perm (p::jP l p.1) l:=by
 obtain⟨x,hx⟩:=Js hp
 have h:=iL hx
 have e:l.getD x pd=p:=hd.eq_of (wS h.1) hp h.2
 unfold jP gh
 rw[hx]
 have:=yZt h.1
 rw[e] at this
 exact this
theorem fM.perm {k:Nat}{t:Int}{B C:BT}{l done m:List zB}(h:fM k t B l done C m)(hd:qS l):List.Perm (done++m) l:=by
 induction h with
 |stop _=>exact List.Perm.refl _
 |step h _ ih=>
  have hp:=Bh (vu h).1
  exact((ih (List.Pairwise.sublist (pV hp).2 hd)).cons _).trans (JV hd hp)
theorem jE.perm {k:Nat}{t:Int}{B C:BT}{l done m:List zB}(h:jE k t B l done C m)(hd:qS l):List.Perm (done++m) l:=by
 induction h with
 |stop _=>exact List.Perm.refl _
 |step h _ ih=>
  obtain⟨hp,hq,mv,_⟩:=Bl h
  obtain⟨h1,h2⟩:=Bm hd hp hq mv
  have jy:qS (jP _ _):=List.Pairwise.sublist (pV hp).2 hd
  have mr:=Q0 hp hq (yXd hd hp hq mv)
  exact(((ih (List.Pairwise.sublist h2 hd)).cons _).cons _).trans (((JV jy mr).cons _).trans (JV hd hp))
theorem fM.final {k:Nat}{t:Int}{B C:BT}{l done m:List zB}(h:fM k t B l done C m):jL k C (vM m t)=none:=by
 induction h with
 |stop h=>exact h
 |step _ _ ih=>exact ih
theorem jE.final {k:Nat}{t:Int}{B C:BT}{l done m:List zB}(h:jE k t B l done C m):eP k C m t=none:=by
 induction h with
 |stop h=>exact h
 |step _ _ ih=>exact ih
theorem qS.perm {l m:List zB}(h:qS l)(hp:List.Perm m l):qS m:=(List.Perm.pairwise_iff (R:=fun p q:zB=>p.1≠q.1) (fun rH=>Ne.symm rH) hp.symm).1 h
inductive kg (k:Nat) (t:Int):BT→List zB→List zB→BT→List zB→Prop
 |stop {B C:BT} {l m d:List zB} (h1:fM k t B l d C m) (h2:eP k C m t=none):kg k t B l d C m
 |step {B C D E:BT} {l m n o d e f:List zB} (h1:fM k t B l d C m) (h2:jE k t C m e D n) (ne:e≠[]) (h':kg k t D n f E o):kg k t B l (d++e++f) E o
theorem kg.perm {k:Nat}{t:Int}{B C:BT}{l done m:List zB}(h:kg k t B l done C m)(hd:qS l):List.Perm (done++m) l:=by
 induction h with
 |stop h1 _=>exact h1.perm hd
 |@step B C D E l m n o d e f h1 h2 ne h' ih=>
  have p1:=h1.perm hd
  have hd1:=hd.perm p1
  have hm:qS m:=(List.pairwise_append.1 hd1).2.1
  have p2:=h2.perm hm
  have hn:qS n:=(List.pairwise_append.1 (hm.perm p2)).2.1
  have p3:=ih hn
  have e1:d++e++f++o=d++(e++(f++o)):=by simp
  rw[e1]
  exact((p3.append_left e).append_left d).trans ((p2.append_left d).trans p1)
theorem kg.final {k:Nat}{t:Int}{B C:BT}{l done m:List zB}(h:kg k t B l done C m):jL k C (vM m t)=none∧eP k C m t=none:=by
 induction h with
 |stop h1 h2=>exact⟨h1.final,h2⟩
 |step _ _ _ _ ih=>exact ih
theorem fM.none {k:Nat}{t:Int}{B C:BT}{l done m:List zB}(h:fM k t B l done C m)(hn:jL k B (vM l t)=none):done=[]∧C=B∧m=l:=by
 cases h with
 |stop _=>exact⟨rfl,rfl,rfl⟩
 |step h _=>rw[hn] at h;cases h
theorem jE.none {k:Nat}{t:Int}{B C:BT}{l done m:List zB}(h:jE k t B l done C m)(hn:eP k B l t=none):done=[]∧C=B∧m=l:=by
 cases h with
 |stop _=>exact⟨rfl,rfl,rfl⟩
 |step h _=>rw[hn] at h;cases h
theorem jE.nil {k:Nat}{t:Int}{B C:BT}{l m:List zB}(h:jE k t B l [] C m):eP k B l t=Option.none∧C=B∧m=l:=by
 cases h with
 |stop h=>exact⟨h,rfl,rfl⟩
theorem kg.none {k:Nat}{t:Int}{B C:BT}{l done m:List zB}(h:kg k t B l done C m)(h1:jL k B (vM l t)=Option.none)(h2:eP k B l t=Option.none):done=[]∧C=B∧m=l:=by
 cases h with
 |stop g1 _=>exact g1.none h1
 |step g1 g2 ne _=>
  obtain⟨rfl,rfl,rfl⟩:=g1.none h1
  obtain⟨rfl,_,_⟩:=g2.none h2
  exact absurd rfl ne
theorem qVn {k:Nat}(hk:200≤k)(t:Int):∀(n:Nat) (B:BT) (l r:List zB),qV B→qS l→l.length≤100→l.length<n→r.length+l.length≤900→
  ∃(C:BT) (m done:List zB),FO k n t l B.1 B.2.1 B.2.2.1 B.2.2.2 r=some (m,C.1,C.2.1,C.2.2.1,C.2.2.2,r++done)∧kg k t B l done C m∧qV C∧C.1.length=B.1.length∧List.Sublist m l
 |0,_,_,_,_,_,_,h,_=>absurd h (Nat.not_lt_zero _)
 |n+1,B,l,r,hb,hd,hl,hn,hr=>by
  obtain⟨C,m,d,f1,f2,f3,f4,f5⟩:=yZq hk hb hd hl t
  have p1:=f2.perm hd
  have l1:=p1.length_eq
  rw[List.length_append] at l1
  have hm:qS m:=List.Pairwise.sublist f5 hd
  obtain⟨D,o,e,g1,g2,g3,g4,g5⟩:=vHh hk f3 hm (by omega) t
  have p2:=g2.perm hm
  have l2:=p2.length_eq
  rw[List.length_append] at l2
  have r1:zW (r.length+d.length) 56=true:=yE (by omega) (by omega)
  have r2:zW ((r++d).length+e.length) 56=true:=yE (by rw[List.length_append];omega) (by rw[List.length_append];omega)
  show∃C' m' aaf,JW k _ t l B.1 B.2.1 B.2.2.1 B.2.2.2 r=_∧_
  unfold JW
  rw[f1]
  simp only[ak]
  rw[g1]
  simp only[ak,r1,r2,av]
  cases e with
  |nil=>
   obtain⟨h1,h2,h3⟩:=g2.nil
   subst h2;subst h3
   refine⟨D,o,d,?_,.stop f2 h1,f3,f4,f5⟩
   simp
  |cons p e=>
   have aU:o.length+(e.length+1)=m.length:=by simp at l2;omega
   obtain⟨E,q,f,k1,k2,k3,k4,k5⟩:=qVn hk t n D o (r++d++(p::e)) g3 (List.Pairwise.sublist g5 hm) (by omega) (by omega) (by simp;omega)
   refine⟨E,q,d++(p::e)++f,?_,.step f2 g2 (by simp) k2,k3,k4.trans (g4.trans f4),k5.trans (g5.trans f5)⟩
   have e1:decide ((((p::e).length:Nat):Int)=0)=false:=aj (by simp;omega)
   rw[e1]
   simp only[ao]
   rw[k1]
   simp
theorem BC {k:Nat}(hk:200≤k){B:BT}(hb:qV B){l:List zB}(hd:qS l)(hl:l.length≤100)(t:Int):
  ∃(C:BT) (m done:List zB),FP k B.1 B.2.1 B.2.2.1 B.2.2.2 l t=some (C.1,C.2.1,C.2.2.1,C.2.2.2,m,done)∧kg k t B l done C m∧qV C∧C.1.length=B.1.length∧List.Sublist m l:=by
 obtain⟨C,m,done,h1,h3⟩:=qVn hk t k B l [] hb hd hl (by omega) (by simp;omega)
 refine⟨C,m,done,?_,h3⟩
 unfold FP
 rw[h1]
 rfl
theorem yIc:∀(hs l:List zB),qS l→qS hs→(∀q∈hs,q∈l)→List.Perm (hs++my l hs) l
 |[],l,_,_,_=>List.Perm.refl _
 |p::hs,l,hd,hh,dj=>by
  have hp:=dj p (List.mem_cons_self ..)
  obtain⟨h1,h2⟩:=pV hp
  have hc:=List.pairwise_cons.1 hh
  have:=yIc hs (jP l p.1) (List.Pairwise.sublist h2 hd) hc.2 (fun q hq=>Q0 hp (dj q (List.mem_cons_of_mem _ hq)) (fun e=>hc.1 q hq e.symm))
  exact(this.cons p).trans (JV hd hp)
theorem vGx {k:Nat}(hk:100<k){B:BT}(hb:qV B):nq k B.1 B.2.1 B.2.2.1 B.2.2.2 []=some (B.1,B.2.1,B.2.2.1,B.2.2.2,0):=by
  obtain⟨r,h1,h3⟩:=Jb hk hb (l:=[]) (by simp)
  have aP:vS B.1.length []:=⟨fun p hp=>(by cases hp),by simp⟩
  obtain⟨a',p',h4,h5⟩:=h3.1 aP
  have ah:sD B.1.length B.1 B.2.2.2 [] B.1 B.2.2.2:={
    al:=rfl
    acct:=fun i hi=>by
      have hc:=hb.acct i hi
      have hr:0≤(B.1.getD i ad).2.2:=by
        have:=hb.nums.res i hi
        exact this.1
      show B.1.getD i ad=((B.1.getD i ad).1+0,(B.1.getD i ad).2.1,wB (B.1.getD i ad).2.2 0)
      have e:wB (B.1.getD i ad).2.2 0=(B.1.getD i ad).2.2:=by
        unfold wB
        split<;>omega
      rw[e,Int.add_zero]
    pl:=hb.pl
    pr:=hb.pr
    cell:=fun i hi j hj=>by show _=_+0-0;omega}
  obtain⟨e1,e2⟩:=h4.same ah
  subst e1;subst e2
  rw[IX.2 hb] at h5
  rw[h1,h5]
  rfl
theorem Re {k:Nat}(hk:200≤k){B:BT}(hb:qV B){l:List zB}(hd:qS l)(hl:∀q∈l,yL B.1.length q)(cd:l.length≤64)(t:Int):
  ∃(C:BT) (m done:List zB),vy k B.1 B.2.1 B.2.2.1 B.2.2.2 l t=some (C.1,C.2.1,C.2.2.1,C.2.2.2,m,done)∧qV C∧C.1.length=B.1.length∧List.Sublist m l∧List.Perm (done++m) l∧(done=[]→C=B∧m=l):=by
 obtain⟨f,n,h,hn⟩:=Q4 hb hl cd t
 have rQ:=sQ l t
 have bS:=sO (yT l t) f
 have JU:=bS.length_le
 obtain⟨r,h1,h2,h3⟩:=Bg (k:=k) (by omega) hb (l:=yX (yT l t) f) (by omega)
 have hs:=E4 hb h3
 have g1:=Rc (k:=k) (by omega) hb hl cd t (by omega) h h1
 unfold Br at g1
 cases c:decide (r.2.2.2.2=0) with
 |false=>
  rw[c] at g1
  exact⟨B,l,[],g1,hb,rfl,List.Sublist.refl _,List.Perm.refl _,fun _=>⟨rfl,rfl⟩⟩
 |true=>
  rw[c] at g1
  have eM:List.Sublist (yX (yT l t) f) l:=bS.trans List.filter_sublist
  have hal:r.1.length=B.1.length:=by
   by_cases c':vS B.1.length (yX (yT l t) f)
   ·obtain⟨a',p',x,e⟩:=h3.1 c'
    cases hi:kM a' B.2.1 B.2.2.1 p' with
    |false=>rw[hi] at e;subst e;rfl
    |true=>rw[hi] at e;subst e;exact x.al
   ·rw[h3.2 c']
  refine⟨(r.1,r.2.1,r.2.2.1,r.2.2.2.1),my l (yX (yT l t) f),yX (yT l t) f,g1,hs.2.1,hal,(JS _ _).2,yIc _ _ hd (List.Pairwise.sublist eM hd) (fun q hq=>eM.subset hq),fun e=>?_⟩
  rw[e] at h1⊢
  rw[vGx (by omega) hb] at h1
  cases h1
  exact⟨rfl,rfl⟩
theorem yX4 {k:Nat}(hk:200≤k){B:BT}(hb:qV B){l:List zB}(hd:qS l)(hl:∀q∈l,yL B.1.length q)(cd:l.length≤64)(t:Int)(all:Bool):
  ∃(C:BT) (m done:List zB),sR k B.1 B.2.1 B.2.2.1 B.2.2.2 l t all=some (C.1,C.2.1,C.2.2.1,C.2.2.2,m,done)∧qV C∧C.1.length=B.1.length∧List.Sublist m l∧List.Perm (done++m) l∧jL k C (vM m t)=none∧eP k C m t=none:=by
 obtain⟨C,m,d,f1,f2,f3,f4,f5⟩:=BC hk hb hd (by omega) t
 have p1:=f2.perm hd
 have l1:=p1.length_eq
 rw[List.length_append] at l1
 unfold sR
 rw[f1]
 simp only[ak]
 cases all with
 |false=>exact⟨C,m,d,rfl,f3,f4,f5,p1,f2.final⟩
 |true=>
  simp only[aY,ao]
  have hm:qS m:=List.Pairwise.sublist f5 hd
  obtain⟨D,n,x,g1,g2,g3,g4,g5,g6⟩:=Re hk f3 hm (fun q hq=>by rw[f4];exact hl q (f5.subset hq)) (by omega) t
  have l2:=g5.length_eq
  rw[List.length_append] at l2
  rw[g1]
  simp only[ak]
  cases x with
  |nil=>
   obtain⟨rfl,rfl⟩:=g6 rfl
   exact⟨D,n,d,rfl,f3,f4,f5,p1,f2.final⟩
  |cons p x=>
   have e1:decide ((((p::x).length:Nat):Int)=0)=false:=aj (by simp;omega)
   rw[e1]
   simp only[ao]
   have hn:qS n:=List.Pairwise.sublist g4 hm
   obtain⟨E,o,y,k1,k2,k3,k4,k5⟩:=BC hk g2 hn (by omega) t
   have p3:=k2.perm hn
   have l3:=p3.length_eq
   rw[List.length_append] at l3
   have r1:zW (d.length+(p::x).length) 56=true:=yE (by simp at l2⊢;omega) (by simp at l2⊢;omega)
   have r2:zW ((d++(p::x)).length+y.length) 56=true:=yE (by simp at l2⊢;omega) (by simp at l2⊢;omega)
   rw[k1]
   simp only[ak,r1,r2,av]
   refine⟨E,o,d++(p::x)++y,rfl,k3,k4.trans (g3.trans f4),k5.trans (g4.trans f5),?_,k2.final⟩
   have e2:d++(p::x)++y++o=d++((p::x)++(y++o)):=by simp
   rw[e2]
   exact((p3.append_left (p::x)).append_left d).trans ((g5.append_left d).trans p1)
abbrev yI:=Int×Int×Int×Int×Int×Int×Int×Int
abbrev od:yI:=(0,(0,(0,(0,(0,(0,(0,0)))))))
instance vz:DecidableEq yI:=@instDecidableEqProd Int (Int×Int×Int×Int×Int×Int×Int) inferInstance (@instDecidableEqProd Int (Int×Int×Int×Int×Int×Int) inferInstance inferInstance)
def fw (to:Int)(p:zB):yI:=(to,18,p.1,p.2.1,p.2.2.1,p.2.2.2.1,0,0)
def nz (p:zB):List yI:=[fw p.2.1 p,fw p.2.2.1 p]
def vJ:List zB→List yI
 |[]=>[]
 |p::l=>nz p++vJ l
theorem qVx:∀(l m:List zB),vJ (l++m)=vJ l++vJ m
 |[],_=>rfl
 |p::l,m=>by
  show nz p++vJ (l++m)=nz p++vJ l++vJ m
  rw[qVx l m,List.append_assoc]
theorem BD:∀(l:List zB),(vJ l).length=2*l.length
 |[]=>rfl
 |p::l=>by
  show(nz p++vJ l).length=_
  rw[List.length_append,BD l]
  simp[nz]
  omega
theorem yKs (l:List zB)(i:Nat)(hi:i<l.length):vJ (l.take (i+1))=vJ (l.take i)++nz (l.getD i pd):=by
 rw[←ie l i pd hi,qVx]
 show _++(nz _++[])=_
 rw[List.append_nil]
theorem sS {n:Nat}(h:n≤1000):zW (n+1) 64=true:=yE (by omega) (by omega)
theorem vNw {k:Nat}(hk:3≤k)(s8:List zB)(s9 ax:Int)(r:List yI)(hr:r.length≤900)(p:zB):
  sU k k s8 s9 ax 2 0 r p.1 p.2.1 p.2.2.1 p.2.2.2.1 p.2.2.2.2.1 p.2.2.2.2.2.1 p.2.2.2.2.2.2 [p.2.1,p.2.2.1]=some (s8,s9,ax,r++nz p):=by
 obtain⟨n,rfl⟩:∃n,k=n+3:=⟨k-3,by omega⟩
 have e1:zW (r.length+1) 64=true:=sS (by omega)
 have e2:zW ((r++[fw p.2.1 p]).length+1) 64=true:=sS (by rw[List.length_append];simp;omega)
 have h1:nA (n+3) p.2.1 18 [p.1,p.2.1,p.2.2.1,p.2.2.2.1]=some (fw p.2.1 p):=rfl
 have h2:nA (n+3) p.2.2.1 18 [p.1,p.2.1,p.2.2.1,p.2.2.2.1]=some (fw p.2.2.1 p):=rfl
 have w0:zA (0+1)=1:=by decide
 have w1:zA (1+1)=2:=by decide
 show sV (n+3) (sU (n+3) (n+2)) s8 s9 ax 2 0 r p.1 p.2.1 p.2.2.1 p.2.2.2.1 p.2.2.2.2.1 p.2.2.2.2.2.1 p.2.2.2.2.2.2 [p.2.1,p.2.2.1]=_
 unfold sV
 have g0:[p.2.1,p.2.2.1].getD (Int.toNat 0) 0=p.2.1:=rfl
 have b0:zE 0 [p.2.1,p.2.2.1].length=true:=rfl
 have d0:decide ((0:Int)<2)=true:=rfl
 rw[d0,b0,g0,h1]
 simp only[av,ak,e1,w0]
 show sV (n+3) (sU (n+3) (n+1)) s8 s9 ax 2 1 (r++[fw p.2.1 p]) p.1 p.2.1 p.2.2.1 p.2.2.2.1 p.2.2.2.2.1 p.2.2.2.2.2.1 p.2.2.2.2.2.2 [p.2.1,p.2.2.1]=_
 unfold sV
 have g1:[p.2.1,p.2.2.1].getD (Int.toNat 1) 0=p.2.2.1:=rfl
 have b1:zE 1 [p.2.1,p.2.2.1].length=true:=rfl
 have d1:decide ((1:Int)<2)=true:=rfl
 rw[d1,b1,g1,h2]
 simp only[av,ak,e2,w1]
 show sV (n+3) (sU (n+3) n) s8 s9 ax 2 2 (r++[fw p.2.1 p]++[fw p.2.2.1 p]) p.1 p.2.1 p.2.2.1 p.2.2.2.1 p.2.2.2.2.1 p.2.2.2.2.2.1 p.2.2.2.2.2.2 [p.2.1,p.2.2.1]=_
 unfold sV
 have d2:decide ((2:Int)<2)=false:=rfl
 rw[d2,List.append_assoc]
 rfl
theorem yNx {k:Nat}{l:List zB}(hk:l.length+3≤k)(hl:l.length≤400):JX k l=some (vJ l):=by
 unfold JX
 obtain ⟨s', h1, h2⟩ := vF (L := fun n i (s : List yI) => BE k n l l.length i s) (N := l.length) (fun s => s) (fun i s => s = vJ (l.take i)) (fun n s _=>by
  show BF k _ l l.length l.length s=_
  unfold BF
  simp only [zU, aj (Nat.lt_irrefl _), ao]) (fun n i s hi hs=>by
  refine⟨_,?_,(yKs l i hi).symm⟩
  show BF k _ l l.length i s=_
  unfold BF
  have eM:s.length≤900:=by
   rw[hs,BD,List.length_take];omega
  have h2:=vNw (k:=k) (by omega) l l.length i s eM (l.getD i pd)
  simp only[pd] at h2
  simp only[qG,zU,aB,ai hi,av]
  rw[h2]
  simp only[ak,qO hi (show l.length<9223372036854775808 by omega)]
  rw[hs]) (s:=[]) (show l.length<k by omega) rfl
 have cP:BE k k l l.length 0 []=some s':=h1
 rw[cP,h2,List.take_length]
 rfl
theorem Of4 (n:Nat)(kd a b c d:Int):jK (n+5) kd [a,b,c,d]=some (kd,a,b,c,d,0,0):=by kernel_rfl
theorem vEi {k:Nat}{l:List zB}(hk:l.length+5≤k)(hl:l.length≤400):JY k l=some (vJ l):=by
 unfold JY
 obtain ⟨s', h1, h2⟩ := vF (L := fun n i (s : List yI) => BG k n l i s) (N := l.length) (fun s => s) (fun i s => s = vJ (l.take i)) (fun n s _=>by
  show BH k _ l l.length s=_
  unfold BH
  simp only [zU, aj (Nat.lt_irrefl _), ao]) (fun n i s hi hs=>by
  refine⟨_,?_,(yKs l i hi).symm⟩
  show BH k _ l i s=_
  unfold BH
  have eM:s.length≤900:=by
   rw[hs,BD,List.length_take];omega
  obtain⟨j,rfl⟩:∃j,k=j+5:=⟨k-5,by omega⟩
  have e2:zW (s.length+2) 64=true:=yE (by omega) (by omega)
  simp only[qG,zU,aB,ai hi,av,Of4,ak,e2,qO hi (show l.length<9223372036854775808 by omega)]
  rw[hs]
  rfl) (s:=[]) (show l.length<k by omega) rfl
 have cP:BG k k l 0 []=some s':=h1
 rw[cP,h2,List.take_length]
 rfl
theorem eq8 (p q:yI):((decide (p.1=q.1))&&((decide (p.2.1=q.2.1))&&((decide (p.2.2.1=q.2.2.1))&&((decide (p.2.2.2.1=q.2.2.2.1))&&((decide (p.2.2.2.2.1=q.2.2.2.2.1))&&((decide (p.2.2.2.2.2.1=q.2.2.2.2.2.1))&&((decide (p.2.2.2.2.2.2.1=q.2.2.2.2.2.2.1))&&(decide (p.2.2.2.2.2.2.2=q.2.2.2.2.2.2.2)))))))))=decide (p=q):=by
 obtain⟨a,b,c,d,e,f,g,h⟩:=p
 obtain⟨a',b',c',d',e',f',g',h'⟩:=q
 rw[Bool.eq_iff_iff]
 simp only[bN,bI,Prod.mk.injEq]
theorem vG4 {k:Nat}{a b:List yI}(hk:a.length<k)(hl:a.length<9223372036854775808):JZ k a b=some (decide (a=b)):=by
 unfold JZ
 by_cases hlen:a.length=b.length
 case neg=>
  have e:decide (((a.length:Nat):Int)=((b.length:Nat):Int))=false:=aj (by omega)
  rw[e]
  have:a≠b:=fun e=>hlen (by rw[e])
  rw[aj this]
  rfl
 have e:decide (((a.length:Nat):Int)=((b.length:Nat):Int))=true:=ai (by omega)
 rw[e]
 have := j8 (L := fun n i => BI k n a b i) (N := a.length) (fun i => decide (a.getD i od = b.getD i od)) (.inl ()) (.inr false) (fun n=>by
  show BJ k _ a b a.length=_
  unfold BJ
  simp only [zU, aj (Nat.lt_irrefl _), ao]) (fun n i hi=>by
  show BJ k _ a b i=_
  unfold BJ
  have e8:=eq8 (a.getD i od) (b.getD i od)
  simp only[qG,qO hi hl,zU,aB,ai hi,av,←hlen]
  refine Eq.trans (congrArg (fun z=>bif !z then(some (Sum.inr false):Option (Unit⊕Bool)) else BI k n a b ((i+1:Nat):Int)) e8) ?_
  generalize decide (a.getD i od=b.getD i od)=z
  cases z<;>rfl) hk
 rw[this,EP od hlen]
 cases decide (a=b)<;>rfl
end Go.Ab.Gi
