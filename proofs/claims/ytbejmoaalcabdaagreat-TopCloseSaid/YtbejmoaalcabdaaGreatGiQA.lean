/- Plain proofs, part 0. -/
import Derived.Test.YtbejmoaalcabdaaGreatGiAbC
import Derived.Test.YtbejmoaalcabdaaGreatGiXS
set_option linter.unusedVariables false
set_option linter.unusedSimpArgs false
set_option linter.unusedSectionVars false
set_option maxRecDepth 100000
namespace Go.Ab
theorem ai {p:Prop}[Decidable p](h:p):decide p=true:=decide_eq_true h
theorem aj {p:Prop}[Decidable p](h:¬p):decide p=false:=decide_eq_false h
theorem vk {p:Prop}[Decidable p](h:decide p=true):p:=of_decide_eq_true h
theorem iH {p:Prop}[Decidable p](h:decide p=false):¬p:=of_decide_eq_false h
theorem bN {p:Prop}[Decidable p]:(decide p=true)=p:=decide_eq_true_eq
theorem an {α β:Type}(a:α)(f:α→Option β):(some a).bind f=f a:=rfl
theorem aq {α:Type}(a b:α):cond true a b=a:=rfl
theorem ao {α:Type}(a b:α):cond false a b=b:=rfl
theorem aN (n:Nat):(n:Int).toNat=n:=rfl
theorem bU (a b:Bool):((a&&b)=true)=(a=true∧b=true):=Bool.and_eq_true a b
theorem bd:(!true)=false:=rfl
theorem eC:(!false)=true:=rfl
end Go.Ab
namespace Go.Ab
theorem yA {x:Int}(h1:-9223372036854775808≤x)(h2:x<9223372036854775808):zA x=x:=by
 unfold zA IntKind.wrap
 simp only[IntKind.bits,IntKind.signed,Bool.true_and]
 by_cases h:x%2^64≥2^(64-1)
 ·rw[if_pos (by simpa using h)];omega
 ·rw[if_neg (by simpa using h)];omega
theorem qY {i N:Nat}(h:i<N)(hN:N<9223372036854775808):zA ((i:Int)+1)=((i+1:Nat):Int):=by
 rw[yA (by omega) (by omega)];rfl
theorem qZ (i n:Nat):zE (i:Int) n=decide (i<n):=by
 unfold zE
 simp
theorem fK {i:Int}{n:Nat}(h0:0≤i)(h1:i<n):zE i n=true:=by
 unfold zE
 simp;omega
theorem yF {n b:Nat}(h:n*b≤140737488355328)(h':n≤140737488355328):zX n b=true:=by
 unfold zX
 rw[Nat.ble_eq_true_of_le h,Nat.ble_eq_true_of_le h'];rfl
theorem qC (i n:Nat):decide ((i:Int)<(n:Int))=decide (i<n):=by simp
theorem vl (i n:Nat):decide ((i:Int)=(n:Int))=decide (i=n):=by
 by_cases h:i=n
 ·subst h;simp
 ·rw[aj h,aj (by omega)]
def qK (p:Nat→Bool):Nat→Nat→Bool
 |0,_=>true
 |c+1,i=>p i&&qK p c (i+1)
theorem ZH {p:Nat→Bool}:∀{c i:Nat},qK p c i=true↔∀j,i≤j→j<i+c→p j=true
 |0,i=>by simp[qK];intro j h1 h2;omega
 |c+1,i=>by
  simp only[qK,bU,ZH (c:=c)]
  constructor
  ·rintro⟨h1,h2⟩ j h3 h4
   by_cases e:j=i
   ·subst e;exact h1
   ·exact h2 j (by omega) (by omega)
  ·intro h
   exact⟨h i (Nat.le_refl i) (by omega),fun j h1 h2=>h j (by omega) (by omega)⟩
theorem gY {p:Nat→Bool}{c:Nat}:qK p c 0=true↔∀j,j<c→p j=true:=by
 rw[ZH]
 exact⟨fun h j hj=>h j (Nat.zero_le j) (by omega),fun h j _ hj=>h j (by omega)⟩
theorem ZI {X:Type}{L:Nat→Int→Option X}{N:Nat}(ok:Nat→Bool)(a b:X)(bK:∀n,L (n+1) (N:Int)=some a)
  (aF:∀n i,i<N→L (n+1) (i:Int)=bif ok i then L n ((i+1:Nat):Int) else some b):∀c i n,i+c=N→c<n→L n (i:Int)=some (bif qK ok c i then a else b)
 |0,i,n,h,hn=>by
  obtain⟨n,rfl⟩:∃m,n=m+1:=⟨n-1,by omega⟩
  have:i=N:=by omega
  subst this
  exact bK n
 |c+1,i,n,h,hn=>by
  obtain⟨n,rfl⟩:∃m,n=m+1:=⟨n-1,by omega⟩
  rw[aF n i (by omega)]
  unfold qK
  cases ok i with
  |false=>rfl
  |true=>
   simp only[aq,Bool.true_and]
   exact ZI ok a b bK aF c (i+1) n (by omega) (by omega)
theorem oN {X:Type}{L:Nat→Int→Option X}{N:Nat}(ok:Nat→Bool)(a b:X)(bK:∀n,L (n+1) (N:Int)=some a)
  (aF:∀n i,i<N→L (n+1) (i:Int)=bif ok i then L n ((i+1:Nat):Int) else some b) {n:Nat} (hn:N<n):L n 0=some (bif qK ok N 0 then a else b):=
 ZI ok a b bK aF N 0 n (by omega) hn
theorem ZJ {L:Nat→Int→Option (Unit⊕Int)}{N:Nat}(bad:Nat→Bool)(bK:∀n,L (n+1) (N:Int)=some (.inl ()))
  (aF:∀n i,i<N→L (n+1) (i:Int)=bif bad i then some (.inr (i:Int)) else L n ((i+1:Nat):Int)):
  ∀c i n,i+c=N→c<n→(qK (fun j=> !bad j) c i=true∧L n (i:Int)=some (.inl ()))∨∃x:Nat,i≤x∧x<N∧bad x=true∧(∀j,i≤j→j<x→bad j=false)∧qK (fun j=> !bad j) c i=false∧L n (i:Int)=some (.inr (x:Int))
 |0,i,n,h,hn=>by
  obtain⟨n,rfl⟩:∃m,n=m+1:=⟨n-1,by omega⟩
  have:i=N:=by omega
  subst this
  exact .inl ⟨rfl,bK n⟩
 |c+1,i,n,h,hn=>by
  obtain⟨n,rfl⟩:∃m,n=m+1:=⟨n-1,by omega⟩
  rw[aF n i (by omega)]
  unfold qK
  cases hb:bad i with
  |true=>exact .inr ⟨i,Nat.le_refl i,by omega,hb,fun j h1 h2=>absurd h1 (by omega),rfl,rfl⟩
  |false=>
   simp only[ao,eC,Bool.true_and]
   rcases ZJ bad bK aF c (i+1) n (by omega) (by omega) with h1|⟨x,x1,x2,x3,x4,x5,x6⟩
   ·exact .inl h1
   ·refine .inr ⟨x,by omega,x2,x3,fun j h1 h2=>?_,x5,x6⟩
    by_cases e:j=i
    ·subst e;exact hb
    ·exact x4 j (by omega) h2
theorem sW {L:Nat→Int→Option (Unit⊕Int)}{N:Nat}(bad:Nat→Bool)(bK:∀n,L (n+1) (N:Int)=some (.inl ()))
  (aF:∀n i,i<N→L (n+1) (i:Int)=bif bad i then some (.inr (i:Int)) else L n ((i+1:Nat):Int)) {n:Nat} (hn:N<n):
  ∃x:Unit⊕Int,L n 0=some x∧decide ((match x with|.inl _=>(-1:Int)|.inr y=>y)≥0)= !qK (fun j=> !bad j) N 0:=by
 rcases ZJ bad bK aF N 0 n (by omega) hn with⟨h1,h2⟩|⟨x,_,_,_,_,h5,h6⟩
 ·exact⟨_,h2,by rw[h1];rfl⟩
 ·exact⟨_,h6,by rw[h5];simp⟩
theorem ZK {S X:Type}{L:Nat→Int→S→Option X}{N:Nat}(e:S→X)(inv:Nat→S→Prop)(bK:∀n s,inv N s→L (n+1) (N:Int) s=some (e s))
  (aF:∀n i s,i<N→inv i s→∃s',L (n+1) (i:Int) s=L n ((i+1:Nat):Int) s'∧inv (i+1) s'):
  ∀c i n s,i+c=N→c<n→inv i s→∃s',L n (i:Int) s=some (e s')∧inv N s'
 |0,i,n,s,h,hn,hs=>by
  obtain⟨n,rfl⟩:∃m,n=m+1:=⟨n-1,by omega⟩
  have:i=N:=by omega
  subst this
  exact⟨s,bK n s hs,hs⟩
 |c+1,i,n,s,h,hn,hs=>by
  obtain⟨n,rfl⟩:∃m,n=m+1:=⟨n-1,by omega⟩
  obtain⟨s',h1,h2⟩:=aF n i s (by omega) hs
  rw[h1]
  exact ZK e inv bK aF c (i+1) n s' (by omega) (by omega) h2
theorem vY {S X:Type}{L:Nat→Int→S→Option X}{N:Nat}(e:S→X)(inv:Nat→S→Prop)(bK:∀n s,inv N s→L (n+1) (N:Int) s=some (e s))
  (aF:∀n i s,i<N→inv i s→∃s',L (n+1) (i:Int) s=L n ((i+1:Nat):Int) s'∧inv (i+1) s') {n:Nat} {s:S} (hn:N<n) (hs:inv 0 s):
  ∃s',L n 0 s=some (e s')∧inv N s':=ZK e inv bK aF N 0 n s (by omega) hn hs
def zT {α:Type}(g:α→Int):List α→Int
 |[]=>0
 |p::l=>g p+zT g l
theorem kp {α:Type}(g:α→Int):∀(l m:List α),zT g (l++m)=zT g l+zT g m
 |[],m=>by simp[zT]
 |p::l,m=>by
  show g p+zT g (l++m)=g p+zT g l+zT g m
  rw[kp g l m];omega
theorem za {α:Type}{g:α→Int}{A:Int}:∀{l:List α},(∀p∈l,-A≤g p∧g p≤A)→-(l.length*A)≤zT g l∧zT g l≤l.length*A
 |[],_=>by simp[zT]
 |p::l,h=>by
  have h1:=h p (List.mem_cons_self ..)
  have h2:=za (l:=l) fun q hq=>h q (List.mem_cons_of_mem _ hq)
  have e:((p::l).length:Int)*A=(l.length:Int)*A+A:=by
   rw[List.length_cons,Int.natCast_add,Int.add_mul];simp
  rw[e]
  show-_≤g p+zT g l∧g p+zT g l≤_
  omega
theorem sX {α:Type}{g:α→Int}:∀{l:List α},(∀p∈l,0≤g p)→0≤zT g l
 |[],_=>by simp[zT]
 |p::l,h=>by
  have h1:=h p (List.mem_cons_self ..)
  have h2:=sX (l:=l) fun q hq=>h q (List.mem_cons_of_mem _ hq)
  show 0≤g p+zT g l
  omega
theorem ZL {α:Type}(g h:α→Int):∀(l:List α),zT (fun p=>g p+h p) l=zT g l+zT h l
 |[]=>rfl
 |p::l=>by
  show g p+h p+zT _ l=g p+zT g l+(h p+zT h l)
  rw[ZL g h l];omega
theorem O0 {α:Type}(g h:α→Int):∀(l:List α),zT (fun p=>g p-h p) l=zT g l-zT h l
 |[]=>rfl
 |p::l=>by
  show g p-h p+zT _ l=g p+zT g l-(h p+zT h l)
  rw[O0 g h l];omega
theorem HU {α:Type}{g h:α→Int}:∀{l:List α},(∀p∈l,g p=h p)→zT g l=zT h l
 |[],_=>rfl
 |p::l,e=>by
  show g p+zT g l=h p+zT h l
  rw[e p (List.mem_cons_self ..),HU fun q hq=>e q (List.mem_cons_of_mem _ hq)]
def qO (g:Nat→Int):Nat→Int
 |0=>0
 |n+1=>qO g n+g n
theorem zb (g h:Nat→Int):∀n,qO (fun j=>g j+h j) n=qO g n+qO h n
 |0=>rfl
 |n+1=>by
  show qO _ n+(g n+h n)=qO g n+g n+(qO h n+h n)
  rw[zb g h n];omega
theorem lN {g h:Nat→Int}:∀{n:Nat},(∀j,j<n→g j=h j)→qO g n=qO h n
 |0,_=>rfl
 |n+1,e=>by
  show qO g n+g n=qO h n+h n
  rw[lN fun j hj=>e j (by omega),e n (Nat.lt_succ_self n)]
theorem vm (c:Int)(t:Nat):∀n,qO (fun j=>if j=t then c else 0) n=if t<n then c else 0
 |0=>rfl
 |n+1=>by
  show qO _ n+(if n=t then c else 0)=_
  rw[vm c t n]
  by_cases h:t<n
  ·rw[if_pos h,if_neg (by omega),if_pos (by omega)];omega
  ·by_cases h':n=t
   ·rw[if_neg h,if_pos h',if_pos (by omega)];omega
   ·rw[if_neg h,if_neg h',if_neg (by omega)];omega
theorem O1:∀n,qO (fun _=>0) n=0
 |0=>rfl
 |n+1=>by show qO _ n+0=0;rw[O1 n];rfl
theorem Ee {g:Nat→Int}{A:Int}(h:∀j,-A≤g j∧g j≤A):∀n:Nat,-(n*A)≤qO g n∧qO g n≤n*A
 |0=>by simp[qO]
 |n+1=>by
  have h1:=h n
  have h2:=Ee h n
  have e:((n+1:Nat):Int)*A=(n:Int)*A+A:=by
   rw[Int.natCast_add,Int.add_mul];simp
  rw[e]
  show-_≤qO g n+g n∧qO g n+g n≤_
  omega
theorem HV {α:Type}(g:Nat→α→Int)(n:Nat):∀l:List α,qO (fun j=>zT (g j) l) n=zT (fun p=>qO (fun j=>g j p) n) l
 |[]=>O1 n
 |p::l=>by
  show qO (fun j=>g j p+zT (g j) l) n=qO (fun j=>g j p) n+zT _ l
  rw[zb,HV g n l]
theorem wY {α:Type}{l:List α}{i:Nat}{d:α}(h:i<l.length):l.getD i d∈l:=by
 rw[List.getD_eq_getElem?_getD,List.getElem?_eq_getElem h]
 exact List.getElem_mem h
theorem jK {α:Type}(l:List α)(i:Nat)(d:α)(h:i<l.length):l.take i++[l.getD i d]=l.take (i+1):=by
 rw[List.take_add_one,List.getD_eq_getElem?_getD,List.getElem?_eq_getElem h]
 rfl
theorem wJ {α:Type}(l:List α)(i j:Nat)(a d:α):(l.set i a).getD j d=if i=j∧i<l.length then a else l.getD j d:=by
 rw[List.getD_eq_getElem?_getD,List.getD_eq_getElem?_getD,List.getElem?_set]
 by_cases h:i=j
 ·subst h
  by_cases h':i<l.length<;>simp[h']
 ·simp[h]
theorem HW {α:Type}{l m:List α}(d:α)(hl:l.length=m.length)(h:∀i,i<l.length→l.getD i d=m.getD i d):l=m:=by
 apply List.ext_getElem hl
 intro i h1 h2
 have:=h i h1
 rwa [List.getD_eq_getElem?_getD,List.getD_eq_getElem?_getD,List.getElem?_eq_getElem h1,List.getElem?_eq_getElem h2] at this
end Go.Ab
namespace Go.Ab.Gi
open Go.Ab
abbrev qM:=Int×Int×Int
abbrev zC:=Int×Int×Int×Int×Int×Int×Int
def eY (a:qM):Bool:=decide (a.1>-4611686018427387904)&&(decide (a.1<4611686018427387904)&&(decide (a.2.1≥0)&&(decide (a.2.1≤2305843009213693952)&&(decide (a.2.2≥0)&&decide (a.2.2≤2305843009213693952)))))
def wA (n:Int):Bool:=decide (n≥-1)&&decide (n≤2305843009213693952)
def fL (n:Int):Bool:=decide (n>-72057594037927936)&&decide (n<72057594037927936)
def cell (m:List (List Int))(i j:Nat):Int:=(m.getD i []).getD j 0
def kS (n:Nat)(m:List (List Int)):Bool:=decide (m.length=n)&&qK (fun i=>decide ((m.getD i []).length=n)) n 0
def nn (p:Int→Bool)(n:Nat)(m:List (List Int)):Bool:=qK (fun i=>qK (fun j=>p (cell m i j)) n 0) n 0
def qs (n:Nat)(m:List (List Int)):Bool:=qK (fun i=>qK (fun j=>decide (cell m i j=zA (0-cell m j i))) n 0) n 0
def kT (sY:List qM)(bil:List (List Int))(mul:List Int)(pos:List (List Int)):Bool:=
 let n:=sY.length
 decide (1≤n)&&(decide (n≤6)&&(kS n bil&&(kS n pos&&(decide (mul.length=n)&&(qK (fun i=>eY (sY.getD i (0,0,0))) n 0&&(qK (fun i=>wA (mul.getD i 0)) n 0&&(nn wA n bil&&(nn fL n pos&&qs n pos))))))))
theorem ZM (k:Nat)(b c r:Int):O2 k b c r=some (eY (b,c,r)):=by
 unfold O2 eY
 cases decide (b>-4611686018427387904)<;>cases decide (b<4611686018427387904)<;>cases decide (c≥0)<;>cases decide (c≤2305843009213693952)<;>cases decide (r≥0)<;>rfl
theorem ZN (k:Nat)(b c r:Int):HX k b c r=some (eY (b,c,r)):=ZM k b c r
theorem O3 (k:Nat)(n:Int):HY k n=some (wA n):=by
 unfold HY wA
 cases decide (n≥-1)<;>rfl
theorem vGc (k:Nat)(n:Int):O4 k n=some (wA n):=O3 k n
theorem ySs (k:Nat)(n:Int):HZ k n=some (fL n):=by
 unfold HZ fL
 cases decide (n>-72057594037927936)<;>rfl
theorem ZO {k:Nat}{n:Nat}(hk:n<k)(hn:n≤1000)(m:List (List Int)):H0 k m n=some (kS n m):=by
 unfold H0 kS
 simp only[vl]
 by_cases h:m.length=n
 ·have := oN (L := fun c i => O5 k c m n i) (N := n) (fun i => decide ((m.getD i []).length = n)) (.inl ()) (.inr false) (fun c=>by
    show Ef k _ m n n=_
    unfold Ef
    simp only [qC, aj (Nat.lt_irrefl n), ao]) (fun c i hi=>by
    show Ef k _ m n i=_
    unfold Ef
    simp only[qZ,qY hi (by omega),qC,vl,aN,h,ai hi,aq]
    cases decide ((m.getD i []).length=n)<;>rfl) hk
  simp only[h,decide_true,bd,ao,Bool.true_and]
  rw[this]
  generalize qK _ _ _=r
  cases r<;>rfl
 ·simp only[aj h,eC,aq,Bool.false_and]
theorem vLd {k:Nat}{N i:Nat}(hk:N<k)(hN:N≤1000)(hi:i<N){a:List qM}{b p:List (List Int)}{m:List Int}(hb:b.length=N)(hp:p.length=N)(O6:∀j,j<N→(b.getD j []).length=N)(lO:∀j,j<N→(p.getD j []).length=N):
  H2 k k N i 0 a b m p=some (bif qK (fun j=>wA (cell b i j)&&(fL (cell p i j)&&decide (cell p i j=zA (0-cell p j i)))) N 0 then .inl ((N:Int),(i:Int),a,b,m,p) else .inr false):=by
 refine oN (L:=fun c j=>H2 k c N i j a b m p) (N:=N) _ (.inl ((N:Int),(i:Int),a,b,m,p)) (.inr false) (fun c=>?_) (fun c j hj=>?_) hk
 ·show Eg k _ N i N a b m p=_
  unfold Eg
  simp only[qC,aj (Nat.lt_irrefl N),ao]
 ·show Eg k _ N i j a b m p=_
  unfold Eg
  simp only[qZ,qY hj (by omega),qC,aN,hb,hp,O6 i hi,lO i hi,lO j hj,ai hj,ai hi,aq,O3,an,fL]
  show(bif !wA (cell b i j) then _ else bif decide (cell p i j≤_) then _ else bif decide (cell p i j≥_) then _ else bif !decide (cell p i j=_) then _ else _)=_
  have e1:decide (cell p i j≤-72057594037927936)= !decide (cell p i j>-72057594037927936):=by
   by_cases h:cell p i j≤-72057594037927936
   ·rw[ai h,aj (by omega)];rfl
   ·rw[aj h,ai (by omega)];rfl
  have e2:decide (cell p i j≥72057594037927936)= !decide (cell p i j<72057594037927936):=by
   by_cases h:cell p i j≥72057594037927936
   ·rw[ai h,aj (by omega)];rfl
   ·rw[aj h,ai (by omega)];rfl
  rw[e1,e2]
  show(bif !wA (cell b i j) then _ else bif _ then _ else bif _ then _ else bif !decide (cell p i j=zA (0-cell p j i)) then _ else _)=_
  cases wA (cell b i j)<;>cases decide (cell p i j>-72057594037927936)<;>cases decide (cell p i j<72057594037927936)<;>cases decide (cell p i j=zA (0-cell p j i))<;>rfl
theorem vC1 {k:Nat}{N:Nat}(hk:N<k)(hN:N≤1000){a:List qM}{b p:List (List Int)}{m:List Int}(ha:a.length=N)(hm:m.length=N)(hb:b.length=N)(hp:p.length=N)(O6:∀j,j<N→(b.getD j []).length=N)(lO:∀j,j<N→(p.getD j []).length=N):
  H3 k k N 0 a b m p=some (bif qK (fun i=>eY (a.getD i (0,0,0))&&(wA (m.getD i 0)&&qK (fun j=>wA (cell b i j)&&(fL (cell p i j)&&decide (cell p i j=zA (0-cell p j i)))) N 0)) N 0 then .inl () else .inr false):=by
 refine oN (L:=fun c j=>H3 k c N j a b m p) (N:=N) _ (.inl ()) (.inr false) (fun c=>?_) (fun c i hi=>?_) hk
 ·show Eh k _ N N a b m p=_
  unfold Eh
  simp only[qC,aj (Nat.lt_irrefl N),ao]
 ·show Eh k _ N i a b m p=_
  unfold Eh
  simp only[qZ,qC,aN,ha,hm,ai hi,aq,O3,ZM,an,vLd hk hN hi hb hp O6 lO]
  generalize qK _ N 0=r
  show(bif !eY (a.getD i (0,0,0)) then _ else _)=_
  cases eY (a.getD i (0,0,0))<;>cases wA (m.getD i 0)<;>cases r<;>simp only[bd,eC,aq,ao,Bool.and_true,Bool.and_false,Bool.true_and,Bool.false_and,qY hi (show N<9223372036854775808 by omega)]
theorem vL5 {k:Nat}(hk:10<k)(a:List qM)(b:List (List Int))(m:List Int)(p:List (List Int)):O7 k a b m p=some (kT a b m p):=by
 unfold O7
 have l1:decide ((a.length:Int)<1)= !decide (1≤a.length):=by
  by_cases h:1≤a.length
  ·rw[ai h,aj (by omega)];rfl
  ·rw[aj h,ai (by omega)];rfl
 have l2:decide ((a.length:Int)>6)= !decide (a.length≤6):=by
  by_cases h:a.length≤6
  ·rw[ai h,aj (by omega)];rfl
  ·rw[aj h,ai (by omega)];rfl
 rw[l1,l2]
 unfold kT
 dsimp only
 by_cases h1:1≤a.length
 case neg=>rw[aj h1];rfl
 by_cases h2:a.length≤6
 case neg=>rw[ai h1,aj h2];rfl
 rw[ai h1,ai h2]
 simp only[bd,ao,Bool.true_and]
 rw[ZO (by omega) (by omega),ZO (by omega) (by omega)]
 simp only[an,vl]
 cases hb:kS a.length b with
 |false=>rfl
 |true=>
  cases hp:kS a.length p with
  |false=>rfl
  |true=>
   by_cases hm:m.length=a.length
   case neg=>simp only[aj hm];rfl
   simp only[kS,bU,bN,gY] at hb hp
   simp only[hm,decide_true,bd,ao,Bool.true_and]
   rw[vC1 (by omega) (by omega) rfl hm hb.1 hp.1 hb.2 hp.2]
   have e:(qK (fun i=>eY (a.getD i (0,0,0))) a.length 0&&(qK (fun i=>wA (m.getD i 0)) a.length 0&&(nn wA a.length b&&(nn fL a.length p&&qs a.length p))))=
     qK (fun i=>eY (a.getD i (0,0,0))&&(wA (m.getD i 0)&&qK (fun j=>wA (cell b i j)&&(fL (cell p i j)&&decide (cell p i j=zA (0-cell p j i)))) a.length 0)) a.length 0:=by
    rw[Bool.eq_iff_iff]
    simp only[nn,qs,bU,gY]
    constructor
    ·rintro⟨h1,h2,h3,h4,h5⟩ i hi
     exact⟨h1 i hi,h2 i hi,fun j hj=>⟨h3 i hi j hj,h4 i hi j hj,h5 i hi j hj⟩⟩
    ·intro h
     exact⟨fun i hi=>(h i hi).1,fun i hi=>(h i hi).2.1,fun i hi j hj=>((h i hi).2.2 j hj).1,fun i hi j hj=>((h i hi).2.2 j hj).2.1,fun i hi j hj=>((h i hi).2.2 j hj).2.2⟩
   rw[e]
   generalize qK _ _ _=r
   cases r<;>rfl
theorem vMe {k:Nat}{a:List qM}(hk:a.length<k)(hl:a.length<9223372036854775808):H4 k a=some (!qK (fun i=>eY (a.getD i (0,0,0))) a.length 0):=by
 obtain ⟨x, h1, h2⟩ := sW (L := fun c i => Ei k c a a.length i) (N := a.length) (fun i => !eY (a.getD i (0, 0, 0))) (fun c=>by
  show zc k _ a a.length a.length=_
  unfold zc
  simp only [qC, aj (Nat.lt_irrefl _), ao]) (fun c i hi=>by
  show zc k _ a a.length i=_
  unfold zc O8
  simp only[qZ,qY hi hl,qC,aN,ai hi,aq,ZN,an]) hk
 unfold H4 O9
 rw[h1]
 simp only[Bool.not_not] at h2
 rw[←h2]
 cases x<;>rfl
theorem ySe {k:Nat}{a:List Int}(hk:a.length<k)(hl:a.length<9223372036854775808):H5 k a=some (!qK (fun i=>wA (a.getD i 0)) a.length 0):=by
 obtain ⟨x, h1, h2⟩ := sW (L := fun c i => Ej k c a a.length i) (N := a.length) (fun i => !wA (a.getD i 0)) (fun c=>by
  show zd k _ a a.length a.length=_
  unfold zd
  simp only [qC, aj (Nat.lt_irrefl _), ao]) (fun c i hi=>by
  show zd k _ a a.length i=_
  unfold zd Pb
  simp only[qZ,qY hi hl,qC,aN,ai hi,aq,vGc,an]) hk
 unfold H5 Pc
 rw[h1]
 simp only[Bool.not_not] at h2
 rw[←h2]
 cases x<;>rfl
theorem yWa {k:Nat}{a:List Int}(hk:a.length<k)(hl:a.length<9223372036854775808):H6 k a=some (!qK (fun i=>fL (a.getD i 0)) a.length 0):=by
 obtain ⟨x, h1, h2⟩ := sW (L := fun c i => Ek k c a a.length i) (N := a.length) (fun i => !fL (a.getD i 0)) (fun c=>by
  show ze k _ a a.length a.length=_
  unfold ze
  simp only [qC, aj (Nat.lt_irrefl _), ao]) (fun c i hi=>by
  show ze k _ a a.length i=_
  unfold ze Pd
  simp only[qZ,qY hi hl,qC,aN,ai hi,aq,ySs,an]) hk
 unfold H6 Pe
 rw[h1]
 simp only[Bool.not_not] at h2
 rw[←h2]
 cases x<;>rfl
theorem ZP {k n:Nat}(hk:n<k)(hn:n≤1000)(a:List Int):El k a n=some (decide (a.length=n)&&qK (fun i=>wA (a.getD i 0)) n 0):=by
 unfold El
 simp only[vl]
 by_cases h:a.length=n
 ·rw[ySe (by omega) (by omega)]
  simp only[h,decide_true,aq,an,Bool.not_not,Bool.true_and]
 ·simp only[aj h,ao,Bool.false_and]
theorem yYl {k n:Nat}(hk:n<k)(hn:n≤1000)(a:List Int):H7 k a n=some (decide (a.length=n)&&qK (fun i=>fL (a.getD i 0)) n 0):=by
 unfold H7
 simp only[vl]
 by_cases h:a.length=n
 ·rw[yWa (by omega) (by omega)]
  simp only[h,decide_true,aq,an,Bool.not_not,Bool.true_and]
 ·simp only[aj h,ao,Bool.false_and]
theorem yXt {k n:Nat}(hk:n<k)(hn:n≤1000)(m:List (List Int)):H8 k m n=some (decide (m.length=n)&&qK (fun i=>decide ((m.getD i []).length=n)&&qK (fun j=>wA (cell m i j)) n 0) n 0):=by
 unfold H8
 simp only[vl]
 by_cases h:m.length=n
 ·have := oN (L := fun c i => Em k c n m n i) (N := n) (fun i => decide ((m.getD i []).length = n) && qK (fun j => wA (cell m i j)) n 0) (.inl ()) (.inr false) (fun c=>by
    show zg k _ n m n n=_
    unfold zg
    simp only [qC, aj (Nat.lt_irrefl n), ao]) (fun c i hi=>by
    show zg k _ n m n i=_
    unfold zg
    simp only[qZ,qY hi (by omega),qC,aN,h,ai hi,aq,ZP hk hn,an]
    show(bif !(decide ((m.getD i []).length=n)&&qK (fun j=>wA (cell m i j)) n 0) then _ else _)=_
    generalize (decide ((m.getD i []).length=n)&&qK (fun j=>wA (cell m i j)) n 0)=r
    cases r<;>rfl) hk
  simp only[h,decide_true,bd,ao,Bool.true_and]
  rw[this]
  generalize qK _ _ _=r
  cases r<;>rfl
 ·simp only[aj h,eC,aq,Bool.false_and]
theorem vKi {k n:Nat}(hk:n<k)(hn:n≤1000)(m:List (List Int)):H9 k m n=some (decide (m.length=n)&&qK (fun i=>decide ((m.getD i []).length=n)&&qK (fun j=>fL (cell m i j)) n 0) n 0):=by
 unfold H9
 simp only[vl]
 by_cases h:m.length=n
 ·have := oN (L := fun c i => En k c n m n i) (N := n) (fun i => decide ((m.getD i []).length = n) && qK (fun j => fL (cell m i j)) n 0) (.inl ()) (.inr false) (fun c=>by
    show zh k _ n m n n=_
    unfold zh
    simp only [qC, aj (Nat.lt_irrefl n), ao]) (fun c i hi=>by
    show zh k _ n m n i=_
    unfold zh
    simp only[qZ,qY hi (by omega),qC,aN,h,ai hi,aq,yYl hk hn,an]
    show(bif !(decide ((m.getD i []).length=n)&&qK (fun j=>fL (cell m i j)) n 0) then _ else _)=_
    generalize (decide ((m.getD i []).length=n)&&qK (fun j=>fL (cell m i j)) n 0)=r
    cases r<;>rfl) hk
  simp only[h,decide_true,bd,ao,Bool.true_and]
  rw[this]
  generalize qK _ _ _=r
  cases r<;>rfl
 ·simp only[aj h,eC,aq,Bool.false_and]
theorem yWb {k N i:Nat}(hk:N<k)(hN:N≤1000)(hi:i<N){p q:List (List Int)}{u:Int}(hp:p.length=N)(lO:∀j,j<N→(p.getD j []).length=N):
  zi k k p i q u i (p.getD i []) N 0=some (bif qK (fun j=>decide (cell p j i=zA (0-cell p i j))) N 0 then .inl (p,q,u,(i:Int)) else .inr false):=by
 refine oN (L:=fun c j=>zi k c p i q u i (p.getD i []) N j) (N:=N) _ (.inl (p,q,u,(i:Int))) (.inr false) (fun c=>?_) (fun c j hj=>?_) hk
 ·show zj k _ p i q u i (p.getD i []) N N=_
  unfold zj
  simp only[qC,aj (Nat.lt_irrefl N),ao]
 ·show zj k _ p i q u i (p.getD i []) N j=_
  unfold zj
  simp only[qZ,qY hj (show N<9223372036854775808 by omega),qC,aN,hp,lO i hi,lO j hj,ai hj,ai hi,aq]
  show(bif !decide (cell p j i=zA (0-cell p i j)) then _ else _)=_
  generalize decide (cell p j i=zA (0-cell p i j))=r
  cases r<;>rfl
theorem ySj {k N:Nat}(hk:N<k)(hN:N≤1000){p:List (List Int)}(hp:p.length=N)(lO:∀j,j<N→(p.getD j []).length=N):
  Ia k p=some (qs N p):=by
 have := oN (L := fun c i => Eo k c p p N i) (N := N) (fun i => qK (fun j => decide (cell p j i = zA (0 - cell p i j))) N 0) (.inl ()) (.inr false) (fun c=>by
   show zk k _ p p N N=_
   unfold zk
   simp only [qC, aj (Nat.lt_irrefl N), ao]) (fun c i hi=>by
   show zk k _ p p N i=_
   unfold zk
   simp only[qZ,qC,aN,hp,lO i hi,ai hi,aq,yWb hk hN hi hp lO,an]
   generalize qK _ N 0=r
   cases r<;>simp only[aq,ao,qY hi (show N<9223372036854775808 by omega)]) hk
 unfold Ia
 simp only[hp]
 rw[this]
 have e:qK (fun i=>qK (fun j=>decide (cell p j i=zA (0-cell p i j))) N 0) N 0=qs N p:=by
  rw[Bool.eq_iff_iff]
  simp only[qs,gY]
  exact⟨fun h i hi j hj=>h j hj i hi,fun h i hi j hj=>h j hj i hi⟩
 rw[e]
 generalize qs N p=r
 cases r<;>rfl
theorem vIs {k:Nat}(hk:10<k)(a:List qM)(b:List (List Int))(m:List Int)(p:List (List Int)):Ep k a b m p=some (kT a b m p):=by
 unfold Ep
 have l1:decide ((a.length:Int)<1)= !decide (1≤a.length):=by
  by_cases h:1≤a.length
  ·rw[ai h,aj (by omega)];rfl
  ·rw[aj h,ai (by omega)];rfl
 have l2:decide ((a.length:Int)>6)= !decide (a.length≤6):=by
  by_cases h:a.length≤6
  ·rw[ai h,aj (by omega)];rfl
  ·rw[aj h,ai (by omega)];rfl
 rw[l1,l2]
 unfold kT
 dsimp only
 by_cases h1:1≤a.length
 case neg=>rw[aj h1];rfl
 by_cases h2:a.length≤6
 case neg=>rw[ai h1,aj h2];rfl
 rw[ai h1,ai h2]
 simp only[bd,ao,Bool.true_and]
 rw[vMe (by omega) (by omega),yXt (by omega) (by omega),ZP (by omega) (by omega),vKi (by omega) (by omega)]
 simp only[an]
 generalize hA:qK (fun i=>eY (a.getD i (0,0,0))) a.length 0=A
 have sq:∀(q:Int→Bool) (m:List (List Int)),(decide (m.length=a.length)&&qK (fun i=>decide ((m.getD i []).length=a.length)&&qK (fun j=>q (cell m i j)) a.length 0) a.length 0)=(kS a.length m&&nn q a.length m):=by
  intro q m
  rw[Bool.eq_iff_iff]
  simp only[kS,nn,bU,bN,gY]
  exact⟨fun h=>⟨⟨h.1,fun i hi=>(h.2 i hi).1⟩,fun i hi=>(h.2 i hi).2⟩,fun h=>⟨h.1.1,fun i hi=>⟨h.1.2 i hi,h.2 i hi⟩⟩⟩
 rw[sq wA b,sq fL p]
 cases hp:kS a.length p with
 |false=>
  cases A<;>cases kS a.length b<;>cases nn wA a.length b<;>cases decide (m.length=a.length)<;>cases qK (fun i=>wA (m.getD i 0)) a.length 0<;>rfl
 |true=>
  simp only[kS,bU,bN,gY] at hp
  rw[ySj (N:=a.length) (by omega) (by omega) hp.1 hp.2]
  cases A<;>cases kS a.length b<;>cases nn wA a.length b<;>cases decide (m.length=a.length)<;>cases qK (fun i=>wA (m.getD i 0)) a.length 0<;>cases nn fL a.length p<;>cases qs a.length p<;>rfl
theorem ZQ {k N:Nat}{s:List (List Int)}(hN:s.length=N)(hl:N≤1000)(hr:∀i,i<N→(s.getD i []).length≤1000):∀(c i n:Nat),i+c=N→c<n→Pf k n s i (s.take i)=some s
 |0,i,n,h,hn=>by
  obtain⟨n,rfl⟩:∃m,n=m+1:=⟨n-1,by omega⟩
  show Er k _ s i (s.take i)=_
  unfold Er
  have:¬i<s.length:=by omega
  simp only[qC,aj this,ao]
  rw[List.take_of_length_le (by omega)]
 |c+1,i,n,h,hn=>by
  obtain⟨n,rfl⟩:∃m,n=m+1:=⟨n-1,by omega⟩
  show Er k _ s i (s.take i)=_
  unfold Er
  have hi:i<s.length:=by omega
  have h1:=hr i (by omega)
  have e1:zX (0+(s.getD i []).length) 8=true:=yF (by omega) (by omega)
  have e2:zX ((s.take i).length+1) 24=true:=yF (by rw[List.length_take];omega) (by rw[List.length_take];omega)
  simp only[qZ,qY hi (show s.length<9223372036854775808 by omega),qC,aN,ai hi,aq,e1,e2]
  rw[jK s i [] hi]
  exact ZQ hN hl hr c (i+1) n (by omega) (by omega)
theorem ZR {k:Nat}{s:List (List Int)}(hl:s.length≤1000)(hk:s.length<k)(hr:∀i,i<s.length→(s.getD i []).length≤1000):Ib k s=some s:=by
 unfold Ib
 have:=ZQ (k:=k) rfl hl hr s.length 0 k (by omega) hk
 rw[List.take_zero] at this
 have e:((0:Nat):Int)=0:=rfl
 rw[e] at this
 rw[this]
 rfl
theorem ZS {k N:Nat}{s:List (List Int)}(hN:s.length=N)(hl:N≤1000)(hr:∀i,i<N→(s.getD i []).length≤1000):∀(c i n:Nat),i+c=N→c<n→Es k n s N i (s.take i) N=some (s,N)
 |0,i,n,h,hn=>by
  obtain⟨n,rfl⟩:∃m,n=m+1:=⟨n-1,by omega⟩
  show zl k _ s N i (s.take i) N=_
  unfold zl
  have:¬i<N:=by omega
  simp only[qC,aj this,ao]
  rw[List.take_of_length_le (by omega)]
 |c+1,i,n,h,hn=>by
  obtain⟨n,rfl⟩:∃m,n=m+1:=⟨n-1,by omega⟩
  show zl k _ s N i (s.take i) N=_
  unfold zl np
  have hi:i<N:=by omega
  have h1:=hr i (by omega)
  have e1:zX (0+(s.getD i []).length) 8=true:=yF (by omega) (by omega)
  have e2:Nat.beq i (s.take i).length=true:=by rw[List.length_take,Nat.min_eq_left (by omega)];simp
  simp only[qZ,qY hi (show N<9223372036854775808 by omega),qC,aN,ai hi,aq,e1,e2,hN,an]
  rw[jK s i [] (by omega)]
  exact ZS hN hl hr c (i+1) n (by omega) (by omega)
theorem ZT {k:Nat}{s:List (List Int)}(hl:s.length≤1000)(hk:s.length<k)(hr:∀i,i<s.length→(s.getD i []).length≤1000):Et k s=some s:=by
 unfold Et Pg
 have:=ZS (k:=k) rfl hl hr s.length 0 k (by omega) hk
 rw[List.take_zero] at this
 have e:((0:Nat):Int)=0:=rfl
 rw[e] at this
 have e1:zX (0+s.length) 24=true:=yF (by omega) (by omega)
 simp only[e1,aq,an]
 rw[this]
 simp only[an,vMt]
 simp
structure Sized (a:List qM) (b:List (List Int)) (m:List Int) (p:List (List Int)):Prop where
 n1:1≤a.length
 n6:a.length≤6
 bl:b.length=a.length
 br:∀i,i<a.length→(b.getD i []).length=a.length
 ml:m.length=a.length
 pl:p.length=a.length
 pr:∀i,i<a.length→(p.getD i []).length=a.length
structure wU (a:List qM) (b:List (List Int)) (m:List Int) (p:List (List Int)):Prop extends Sized a b m p where
 acct:∀i,i<a.length→eY (a.getD i (0,0,0))=true
 mul:∀i,i<a.length→wA (m.getD i 0)=true
 bil:∀i,i<a.length→∀j,j<a.length→wA (cell b i j)=true
 net:∀i,i<a.length→∀j,j<a.length→fL (cell p i j)=true
 turn:∀i,i<a.length→∀j,j<a.length→cell p i j=zA (0-cell p j i)
theorem Ph {a:List qM}{b:List (List Int)}{m:List Int}{p:List (List Int)}:kT a b m p=true↔wU a b m p:=by
 unfold kT
 simp only[bU,bN,kS,nn,qs,gY]
 constructor
 ·rintro⟨h1,h2,⟨h3,h4⟩,⟨h5,h6⟩,h7,h8,h9,Pj,Pk,h12⟩
  exact{n1:=h1,n6:=h2,bl:=h3,br:=h4,ml:=h7,pl:=h5,pr:=h6,acct:=h8,mul:=h9,bil:=Pj,net:=Pk,turn:=h12}
 ·intro h
  exact⟨h.n1,h.n6,⟨h.bl,h.br⟩,⟨h.pl,h.pr⟩,h.ml,h.acct,h.mul,h.bil,h.net,h.turn⟩
theorem vHl {k:Nat}(hk:10<k){a:List qM}{b:List (List Int)}{m:List Int}{p:List (List Int)}(h:Sized a b m p):Pl k a b m p=some (a,b,m,p):=by
 obtain⟨h1,h2,h3,h4,h5,h6,h7⟩:=h
 unfold Pl
 have e1:zX (0+a.length) 24=true:=yF (by omega) (by omega)
 have e2:zX (0+m.length) 8=true:=yF (by omega) (by omega)
 rw[ZR (s:=b) (by omega) (by omega) (fun i hi=>by rw[h4 i (by omega)];omega),ZR (s:=p) (by omega) (by omega) (fun i hi=>by rw[h7 i (by omega)];omega)]
 simp only[e1,e2,aq,an]
theorem Eu {k:Nat}(hk:10<k){a:List qM}{b:List (List Int)}{m:List Int}{p:List (List Int)}(h:Sized a b m p):jR k a b m p=some (a,b,m,p):=by
 obtain⟨h1,h2,h3,h4,h5,h6,h7⟩:=h
 unfold jR Pm np
 have e1:zX (0+a.length) 24=true:=yF (by omega) (by omega)
 have e2:zX (0+m.length) 8=true:=yF (by omega) (by omega)
 rw[ZT (s:=b) (by omega) (by omega) (fun i hi=>by rw[h4 i (by omega)];omega),ZT (s:=p) (by omega) (by omega) (fun i hi=>by rw[h7 i (by omega)];omega)]
 simp only[e1,e2,aq,an]
abbrev pd:zC:=(0,(0,(0,(0,(0,(0,0))))))
abbrev ad:qM:=(0,(0,0))
def nq (n:Nat)(p:zC):Bool:=decide (p.2.1≥0)&&(decide (p.2.1<(n:Int))&&(decide (p.2.2.1≥0)&&(decide (p.2.2.1<(n:Int))&&(!decide (p.2.1=p.2.2.1)&&(decide (p.2.2.2.1≥1)&&(decide (p.2.2.2.1≤1099511627776)&&(decide (p.2.2.2.2.1≥1)&&decide (p.2.2.2.2.1≤3))))))))
structure yS (n:Nat) (p:zC):Prop where
 f0:0≤p.2.1
 f1:p.2.1<n
 t0:0≤p.2.2.1
 t1:p.2.2.1<n
 ne:p.2.1≠p.2.2.1
 a1:1≤p.2.2.2.1
 a2:p.2.2.2.1≤1099511627776
 c1:1≤p.2.2.2.2.1
 c3:p.2.2.2.2.1≤3
theorem ZU {n:Nat}{p:zC}:nq n p=true↔yS n p:=by
 unfold nq
 simp only[bU,bN,Bool.not_eq_true',decide_eq_false_iff_not]
 exact⟨fun⟨h1,h2,h3,h4,h5,h6,h7,h8,h9⟩=>⟨h1,h2,h3,h4,h5,h6,h7,h8,h9⟩,fun⟨h1,h2,h3,h4,h5,h6,h7,h8,h9⟩=>⟨h1,h2,h3,h4,h5,h6,h7,h8,h9⟩⟩
theorem Pn (k:Nat)(a:List qM)(b:List (List Int))(m:List Int)(p:List (List Int))(i f t am c s ti:Int):zm k a b m p i f t am c s ti=some (nq a.length (i,f,t,am,c,s,ti)):=by
 unfold zm nq
 cases decide (f≥0)<;>cases decide (f<(a.length:Int))<;>cases decide (t≥0)<;>cases decide (t<(a.length:Int))<;>cases decide (f=t)<;>cases decide (am≥1)<;>cases decide (am≤1099511627776)<;>cases decide (c≥1)<;>rfl
theorem vHz (k:Nat)(a:List qM)(b:List (List Int))(m:List Int)(p:List (List Int))(i f t am c s ti:Int):ZV k a b m p i f t am c s ti=some (nq a.length (i,f,t,am,c,s,ti)):=Pn k a b m p i f t am c s ti
def mv (n:Nat)(l:List zC):Bool:=qK (fun i=>nq n (l.getD i pd)) l.length 0
theorem zn {n:Nat}{l:List zC}:mv n l=true↔∀p∈l,yS n p:=by
 unfold mv
 rw[gY]
 constructor
 ·intro h p hp
  obtain⟨i,hi,rfl⟩:=List.getElem_of_mem hp
  have:=h i hi
  rw[List.getD_eq_getElem?_getD,List.getElem?_eq_getElem hi] at this
  exact ZU.1 this
 ·intro h i hi
  exact ZU.2 (h _ (wY hi))
theorem yWl {k:Nat}{l:List zC}(hk:l.length<k)(hl:l.length<9223372036854775808)(a:List qM)(b:List (List Int))(m:List Int)(p:List (List Int)):Ic k l a b m p=some (!mv a.length l):=by
 obtain ⟨x, h1, h2⟩ := sW (L := fun c i => Ev k c l l.length i a b m p) (N := l.length) (fun i => !nq a.length (l.getD i pd)) (fun c=>by
  show zo k _ l l.length l.length a b m p=_
  unfold zo
  simp only [qC, aj (Nat.lt_irrefl _), ao]) (fun c i hi=>by
  show zo k _ l l.length i a b m p=_
  unfold zo Po
  simp only[qZ,qY hi hl,qC,aN,ai hi,aq,Pn,an]) hk
 unfold Ic Pp
 rw[h1]
 simp only[Bool.not_not] at h2
 unfold mv
 rw[←h2]
 cases x<;>rfl
theorem vLh {k:Nat}{l:List zC}(hk:l.length<k)(hl:l.length<9223372036854775808)(a:List qM)(b:List (List Int))(m:List Int)(p:List (List Int)):Pq k a b m p l=some (mv a.length l&&decide (l.length≤64)):=by
 unfold Pq
 have := oN (L := fun c i => Pr k c l i a b m p) (N := l.length) (fun i => nq a.length (l.getD i pd)) (.inl l) (.inr false) (fun c=>by
  show Ew k _ l l.length a b m p=_
  unfold Ew
  simp only [qC, aj (Nat.lt_irrefl _), ao]) (fun c i hi=>by
  show Ew k _ l i a b m p=_
  unfold Ew
  simp only[qZ,qY hi hl,qC,aN,ai hi,aq,vHz,an]
  show(bif !nq a.length (l.getD i pd) then _ else _)=_
  generalize nq a.length (l.getD i pd)=r
  cases r<;>rfl) hk
 rw[this]
 unfold mv
 have e:decide (((l.length:Nat):Int)≤64)=decide (l.length≤64):=by
  by_cases h:l.length≤64
  ·rw[ai h,ai (by omega)]
  ·rw[aj h,aj (by omega)]
 generalize qK _ _ _=r
 cases r
 ·rfl
 ·simp only[aq,an,Bool.true_and,e]
def gB (i:Nat)(p:zC):Int:=(if p.2.2.1=i then p.2.2.2.1 else 0)-(if p.2.1=i then p.2.2.2.1 else 0)
def gS (i j:Nat)(p:zC):Int:=if p.2.1=i∧p.2.2.1=j then p.2.2.2.1 else 0
def gR (i:Nat)(p:zC):Int:=if p.2.1=i∧p.2.2.2.2.1≠3 then p.2.2.2.1 else 0
def wB (r s:Int):Int:=if s≥r then 0 else r-s
theorem yTk {r s t:Int}(hs:0≤s)(ht:0≤t):wB (wB r s) t=wB r (s+t):=by
 unfold wB
 by_cases h:s≥r
 ·rw[if_pos h,if_pos (by omega),if_pos (by omega)]
 ·rw[if_neg h]
  by_cases h':t≥r-s
  ·rw[if_pos h',if_pos (by omega)]
  ·rw[if_neg h',if_neg (by omega)];omega
theorem Ps {r:Int}(hr:0≤r):wB r 0=r:=by
 unfold wB
 by_cases h:(0:Int)≥r
 ·rw[if_pos h];omega
 ·rw[if_neg h];omega
theorem yV4 {r s:Int}:0≤wB r s:=by
 unfold wB
 by_cases h:s≥r
 ·rw[if_pos h];exact Int.le_refl 0
 ·rw[if_neg h];omega
theorem yUm {r s:Int}(hr:0≤r)(hs:0≤s):wB r s≤r:=by
 unfold wB
 by_cases h:s≥r
 ·rw[if_pos h];exact hr
 ·rw[if_neg h];omega
section
variable {n:Nat} {p:zC}
theorem vDw (h:yS n p)(i:Nat):-1099511627776≤gB i p∧gB i p≤1099511627776:=by
 have h1:=h.a1;have h2:=h.a2;have h3:=h.ne
 unfold gB
 by_cases e:p.2.2.1=i
 ·rw[if_pos e,if_neg (by omega)];omega
 ·rw[if_neg e]
  by_cases e':p.2.1=i
  ·rw[if_pos e'];omega
  ·rw[if_neg e'];omega
theorem Ie (h:yS n p)(i j:Nat):0≤gS i j p∧gS i j p≤1099511627776:=by
 have h1:=h.a1;have h2:=h.a2
 unfold gS
 by_cases e:p.2.1=i∧p.2.2.1=j
 ·rw[if_pos e];omega
 ·rw[if_neg e];omega
theorem Ig (h:yS n p)(i:Nat):0≤gR i p∧gR i p≤1099511627776:=by
 have h1:=h.a1;have h2:=h.a2
 unfold gR
 by_cases e:p.2.1=i∧p.2.2.2.2.1≠3
 ·rw[if_pos e];omega
 ·rw[if_neg e];omega
end
def wF (n:Nat)(l:List zC):Prop:=(∀p∈l,yS n p)∧l.length≤64
theorem Pt {n:Nat}{l:List zC}(h:wF n l)(i:Nat):-70368744177664≤zT (gB i) l∧zT (gB i) l≤70368744177664:=by
 have h1:=za (g:=gB i) (A:=1099511627776) fun p hp=>vDw (h.1 p hp) i
 have h2:=h.2
 have h3:(l.length:Int)*1099511627776≤70368744177664:=by omega
 omega
theorem qt {n:Nat}{l:List zC}(h:wF n l)(i j:Nat):0≤zT (gS i j) l∧zT (gS i j) l≤70368744177664:=by
 have h1:=za (g:=gS i j) (A:=1099511627776) fun p hp=>by have:=Ie (h.1 p hp) i j;omega
 have h0:=sX (g:=gS i j) fun p hp=>(Ie (h.1 p hp) i j).1
 have h2:=h.2
 have h3:(l.length:Int)*1099511627776≤70368744177664:=by omega
 omega
theorem zp {n:Nat}{l:List zC}(h:wF n l)(i:Nat):0≤zT (gR i) l∧zT (gR i) l≤70368744177664:=by
 have h1:=za (g:=gR i) (A:=1099511627776) fun p hp=>by have:=Ig (h.1 p hp) i;omega
 have h0:=sX (g:=gR i) fun p hp=>(Ig (h.1 p hp) i).1
 have h2:=h.2
 have h3:(l.length:Int)*1099511627776≤70368744177664:=by omega
 omega
theorem wF.take {n:Nat}{l:List zC}(h:wF n l)(i:Nat):wF n (l.take i):=⟨fun p hp=>h.1 p (List.mem_of_mem_take hp),by rw[List.length_take];have:=h.2;omega⟩
structure qu (n:Nat) (a:List qM) (p:List (List Int)) (l:List zC) (a':List qM) (p':List (List Int)):Prop where
 al:a'.length=n
 acct:∀i,i<n→a'.getD i ad=((a.getD i ad).1+zT (gB i) l,(a.getD i ad).2.1,wB (a.getD i ad).2.2 (zT (gR i) l))
 pl:p'.length=n
 pr:∀i,i<n→(p'.getD i []).length=n
 cell:∀i,i<n→∀j,j<n→cell p' i j=cell p i j+zT (gS i j) l-zT (gS j i) l
theorem vAj {n:Nat}{p q:List (List Int)}(hp:p.length=n)(hq:q.length=n)(lO:∀i,i<n→(p.getD i []).length=n)(hqr:∀i,i<n→(q.getD i []).length=n)(h:∀i,i<n→∀j,j<n→cell p i j=cell q i j):p=q:=
 HW [] (by omega) fun i hi=>HW 0 (by rw[lO i (by omega),hqr i (by omega)]) fun j hj=>h i (by omega) j (by rw[lO i (by omega)] at hj;exact hj)
theorem qu.same {n:Nat}{a a1 a2:List qM}{p p1 p2:List (List Int)}{l:List zC}(x:qu n a p l a1 p1)(y:qu n a p l a2 p2):a1=a2∧p1=p2:=
 ⟨HW ad (by rw[x.al,y.al]) fun i hi=>by have:=x.al;rw[x.acct i (by omega),y.acct i (by omega)],
  vAj x.pl y.pl x.pr y.pr fun i hi j hj=>by rw[x.cell i hi j hj,y.cell i hi j hj]⟩
structure Ih (n:Nat) (a:List qM) (p:List (List Int)):Prop where
 al:a.length=n
 pl:p.length=n
 pr:∀i,i<n→(p.getD i []).length=n
 bal:∀i,i<n→-4611686018427387904<(a.getD i ad).1∧(a.getD i ad).1<4611686018427387904
 res:∀i,i<n→0≤(a.getD i ad).2.2∧(a.getD i ad).2.2≤2305843009213693952
 net:∀i,i<n→∀j,j<n→-72057594037927936<cell p i j∧cell p i j<72057594037927936
theorem wU.nums {a:List qM}{b:List (List Int)}{m:List Int}{p:List (List Int)}(h:wU a b m p):Ih a.length a p where
 al:=rfl
 pl:=h.pl
 pr:=h.pr
 bal:=fun i hi=>by
  have:=h.acct i hi
  show-4611686018427387904<(a.getD i (0,0,0)).1∧(a.getD i (0,0,0)).1<4611686018427387904
  simp only[eY,bU,bN] at this
  omega
 res:=fun i hi=>by
  have:=h.acct i hi
  show 0≤(a.getD i (0,0,0)).2.2∧(a.getD i (0,0,0)).2.2≤2305843009213693952
  simp only[eY,bU,bN] at this
  omega
 net:=fun i hi j hj=>by
  have:=h.net i hi j hj
  simp only[fL,bU,bN] at this
  omega
theorem Pu {m:List (List Int)}{f t i j:Nat}{x:Int}(hf:f<m.length)(ht:t<(m.getD f []).length):cell (m.set f ((m.getD f []).set t x)) i j=if i=f∧j=t then x else cell m i j:=by
 unfold cell
 rw[wJ]
 by_cases h:f=i
 ·rw[if_pos ⟨h,hf⟩,wJ]
  by_cases h':t=j
  ·rw[if_pos ⟨h',ht⟩,if_pos ⟨h.symm,h'.symm⟩]
  ·rw[if_neg (fun e=>h' e.1),if_neg (fun e=>h' e.2.symm),h]
 ·rw[if_neg (fun e=>h e.1),if_neg (fun e=>h e.1.symm)]
theorem Ey {n:Nat}{m:List (List Int)}{f t:Nat}{x:Int}(hm:m.length=n)(hr:∀i,i<n→(m.getD i []).length=n)(hf:f<n):∀i,i<n→((m.set f ((m.getD f []).set t x)).getD i []).length=n:=by
 intro i hi
 rw[wJ]
 by_cases h:f=i
 ·rw[if_pos ⟨h,by omega⟩,List.length_set];exact hr f hf
 ·rw[if_neg (fun e=>h e.1)];exact hr i hi
def zq (p:zC)(r:List qM):List qM:=
 let y0:=r.set p.2.1.toNat (zA ((r.getD p.2.1.toNat ad).1-p.2.2.2.1),(r.getD p.2.1.toNat ad).2)
 let y1:=y0.set p.2.2.1.toNat (zA ((y0.getD p.2.2.1.toNat ad).1+p.2.2.2.1),(y0.getD p.2.2.1.toNat ad).2)
 bif !decide (p.2.2.2.2.1=3) then y1.set p.2.1.toNat ((y1.getD p.2.1.toNat ad).1,((y1.getD p.2.1.toNat ad).2.1,wC false (zA ((y1.getD p.2.1.toNat ad).2.2-p.2.2.2.1)) 0)) else y1
def sZ (p:zC)(m:List (List Int)):List (List Int):=
 let y3:=m.set p.2.1.toNat ((m.getD p.2.1.toNat []).set p.2.2.1.toNat (zA ((m.getD p.2.1.toNat []).getD p.2.2.1.toNat 0+p.2.2.2.1)))
 y3.set p.2.2.1.toNat ((y3.getD p.2.2.1.toNat []).set p.2.1.toNat (zA ((y3.getD p.2.2.1.toNat []).getD p.2.1.toNat 0-p.2.2.2.1)))
theorem yXb (p:zC)(r:List qM):(zq p r).length=r.length:=by
 unfold zq
 cases decide (p.2.2.2.2.1=3)<;>simp
theorem yVd {n:Nat}{p:zC}(h:yS n p){r:List qM}(hr:r.length=n){i:Nat}(hi:i<n)(hb:∀i,i<n→-4611826755915743232<(r.getD i ad).1∧(r.getD i ad).1<4611826755915743232)
  (hz:∀i,i<n→0≤(r.getD i ad).2.2∧(r.getD i ad).2.2≤2305843009213693952):(zq p r).getD i ad=((r.getD i ad).1+gB i p,(r.getD i ad).2.1,wB (r.getD i ad).2.2 (gR i p)):=by
 obtain⟨f0,f1,t0,t1,ne,a1,a2,c1,c3⟩:=h
 obtain⟨f,hf⟩:∃f:Nat,p.2.1=f:=⟨p.2.1.toNat,by omega⟩
 obtain⟨t,ht⟩:∃t:Nat,p.2.2.1=t:=⟨p.2.2.1.toNat,by omega⟩
 have Ez:f≠t:=by omega
 have fM:f<n:=by omega
 have eZ:t<n:=by omega
 have bf:=hb f fM
 have bt:=hb t eZ
 have zf:=hz f fM
 have e1:(r.set f (zA ((r.getD f ad).1-p.2.2.2.1),(r.getD f ad).2)).getD t ad=r.getD t ad:=by rw[wJ,if_neg (fun e=>Ez e.1)]
 have key:∀j,j<n→((r.set f (zA ((r.getD f ad).1-p.2.2.2.1),(r.getD f ad).2)).set t (zA ((r.getD t ad).1+p.2.2.2.1),(r.getD t ad).2)).getD j ad=((r.getD j ad).1+gB j p,(r.getD j ad).2):=by
  intro j hj
  unfold gB
  rw[hf,ht,wJ]
  by_cases ZW:t=j
  ·subst ZW
   rw[if_pos ⟨rfl,by rw[List.length_set];omega⟩,if_pos rfl,if_neg (by omega),yA (by omega) (by omega)]
   simp
  ·rw[if_neg (fun e=>ZW e.1),if_neg (by omega),wJ]
   by_cases ZX:f=j
   ·subst ZX
    rw[if_pos ⟨rfl,by omega⟩,if_pos rfl,yA (by omega) (by omega)]
    simp only[Int.zero_sub];rfl
   ·rw[if_neg (fun e=>ZX e.1),if_neg (by omega)]
    simp
 unfold zq
 simp only[hf,ht,aN,e1]
 unfold gR
 cases hc:decide (p.2.2.2.2.1=3) with
 |true=>
  have j3:p.2.2.2.2.1=3:=by simpa using hc
  simp only[bd,ao]
  rw[key i hi,if_neg (fun e=>e.2 j3),Ps (hz i hi).1]
 |false=>
  have j3:p.2.2.2.2.1≠3:=by simpa using hc
  simp only[eC,aq]
  rw[wJ]
  by_cases ZY:f=i
  ·subst ZY
   rw[if_pos ⟨rfl,by simp only[List.length_set];omega⟩,key f fM,if_pos ⟨hf,j3⟩]
   have:wC false (zA ((r.getD f ad).2.2-p.2.2.2.1)) 0=wB (r.getD f ad).2.2 p.2.2.2.1:=by
    rw[yA (by omega) (by omega)]
    unfold wC wB
    simp only[ao]
    by_cases h:p.2.2.2.1≥(r.getD f ad).2.2
    ·rw[if_pos h]
     by_cases h':(0:Int)>(r.getD f ad).2.2-p.2.2.2.1
     ·rw[ai h'];rfl
     ·rw[aj h']
      show(r.getD f ad).2.2-p.2.2.2.1=0
      omega
    ·rw[if_neg h,aj (by omega)];rfl
   rw[this]
  ·rw[if_neg (fun e=>ZY e.1),key i hi,if_neg (by omega),Ps (hz i hi).1]
theorem ZZ {n:Nat}{p:zC}(h:yS n p){m:List (List Int)}(hm:m.length=n)(hr:∀i,i<n→(m.getD i []).length=n)(hb:∀i,i<n→∀j,j<n→-72128000000000000<cell m i j∧cell m i j<72128000000000000):
  (sZ p m).length=n∧(∀i,i<n→((sZ p m).getD i []).length=n)∧∀i,i<n→∀j,j<n→cell (sZ p m) i j=cell m i j+gS i j p-gS j i p:=by
 obtain⟨f0,f1,t0,t1,ne,a1,a2,c1,c3⟩:=h
 obtain⟨f,hf⟩:∃f:Nat,p.2.1=f:=⟨p.2.1.toNat,by omega⟩
 obtain⟨t,ht⟩:∃t:Nat,p.2.2.1=t:=⟨p.2.2.1.toNat,by omega⟩
 have Ez:f≠t:=by omega
 have fM:f<n:=by omega
 have eZ:t<n:=by omega
 unfold sZ
 simp only[hf,ht,aN]
 have r1:=Ey (x:=zA ((m.getD f []).getD t 0+p.2.2.2.1)) (t:=t) hm hr fM
 have c1:∀i j,cell (m.set f ((m.getD f []).set t (zA ((m.getD f []).getD t 0+p.2.2.2.1)))) i j=if i=f∧j=t then zA (cell m f t+p.2.2.2.1) else cell m i j:=fun i j=>Pu (by omega) (by rw[hr f fM];omega)
 refine⟨by simp only[List.length_set];exact hm,Ey (by rw[List.length_set];exact hm) r1 eZ,fun i hi j hj=>?_⟩
 rw[Pu (by rw[List.length_set];omega) (by rw[r1 t eZ];omega)]
 have e2:((m.set f ((m.getD f []).set t (zA ((m.getD f []).getD t 0+p.2.2.2.1)))).getD t []).getD f 0=cell m t f:=by
  show cell _ t f=_
  rw[c1,if_neg (fun e=>Ez e.1.symm)]
 rw[e2,c1]
 unfold gS
 rw[hf,ht]
 have b1:=hb f fM t eZ
 have b2:=hb t eZ f fM
 by_cases h1:i=t∧j=f
 ·obtain⟨rfl,rfl⟩:=h1
  rw[if_pos ⟨rfl,rfl⟩,if_neg (by omega),if_pos ⟨rfl,rfl⟩,yA (by omega) (by omega)]
  omega
 ·rw[if_neg h1]
  by_cases h2:i=f∧j=t
  ·obtain⟨rfl,rfl⟩:=h2
   rw[if_pos ⟨rfl,rfl⟩,if_pos ⟨rfl,rfl⟩,if_neg (by omega),yA (by omega) (by omega)]
   omega
  ·rw[if_neg h2,if_neg (by omega),if_neg (by omega)]
   omega
theorem vLa {k n:Nat}{a:List qM}{b:List (List Int)}{m:List Int}{p:List (List Int)}{l:List zC}(hk:l.length<k)(hx:Ih n a p)(hl:wF n l)(b0:List qM)(b1:List (List Int))(b2:List Int)(b3:List (List Int)):
  ∃a' p',zr k k l l.length 0 b0 b1 b2 b3 a b m p=some (b0,b1,b2,b3,a',b,m,p')∧qu n a p l a' p':=by
 have := vY (L := fun c i (s : List qM × List (List Int)) => zr k c l l.length i b0 b1 b2 b3 s.1 b m s.2) (N := l.length) (fun s => (b0, b1, b2, b3, s.1, b, m, s.2)) (fun i s => qu n a p (l.take i) s.1 s.2) (fun c s hs=>by
   show zt k _ l l.length l.length b0 b1 b2 b3 s.1 b m s.2=_
   unfold zt
   simp only [qC, aj (Nat.lt_irrefl _), ao]) (fun c i s hi hs=>by
   refine⟨(zq (l.getD i pd) s.1,sZ (l.getD i pd) s.2),?_,?_⟩
   ·show zt k _ l l.length i b0 b1 b2 b3 s.1 b m s.2=_
    have cc:yS n (l.getD i pd):=hl.1 _ (wY hi)
    unfold zt zq sZ
    have lP:=hl.2
    simp only[qZ,qY hi (show l.length<9223372036854775808 by omega),qC,aN,ai hi,aq]
    obtain⟨f0,f1,t0,t1,ne,a1,a2,c1,c3⟩:=cc
    obtain⟨f,hf⟩:∃f:Nat,(l.getD i pd).2.1=f:=⟨(l.getD i pd).2.1.toNat,by omega⟩
    obtain⟨t,ht⟩:∃t:Nat,(l.getD i pd).2.2.1=t:=⟨(l.getD i pd).2.2.1.toNat,by omega⟩
    have fM:f<n:=by omega
    have eZ:t<n:=by omega
    have r1:=Ey (x:=zA ((s.2.getD f []).getD t 0+(l.getD i pd).2.2.2.1)) (t:=t) hs.pl hs.pr fM
    simp only[hf,ht,aN,qZ,hs.al,hs.pl,List.length_set,hs.pr f fM,r1 t eZ,ai fM,ai eZ,aq,ta,an]
    cases decide ((l.getD i pd).2.2.2.2.1=3)<;>rfl
   ·have cc:yS n (l.getD i pd):=hl.1 _ (wY hi)
    have aK:=hl.take i
    have hp := ZZ cc hs.pl hs.pr (fun i' bS j' fe=>by
     rw[hs.cell i' bS j' fe]
     have h1:=hx.net i' bS j' fe
     have h2:=qt aK i' j'
     have h3:=qt aK j' i'
     omega)
    refine⟨by rw[yXb];exact hs.al,fun i' bS=>?_,hp.1,hp.2.1,fun i' bS j' fe=>?_⟩
    ·rw [yVd cc hs.al bS (fun j hj=>by
       rw[hs.acct j hj]
       have h1:=hx.bal j hj
       have h2:=Pt aK j
       dsimp only
       omega) (fun j hj=>by
       rw[hs.acct j hj]
       have h1:=hx.res j hj
       have h2:=zp aK j
       dsimp only
       exact⟨yV4,Int.le_trans (yUm h1.1 h2.1) h1.2⟩),hs.acct i' bS,←jK l i pd hi,kp,kp]
     dsimp only[zT]
     rw[yTk (zp aK i').1 (Ig cc i').1,Int.add_zero,Int.add_zero,Int.add_assoc]
    ·rw[hp.2.2 i' bS j' fe,hs.cell i' bS j' fe,←jK l i pd hi,kp,kp]
     dsimp only[zT]
     omega) (s:=(a,p)) hk ⟨hx.al,fun i hi=>by
      rw[List.take_zero]
      show a.getD i ad=((a.getD i ad).1+0,(a.getD i ad).2.1,wB (a.getD i ad).2.2 0)
      rw[Ps (hx.res i hi).1,Int.add_zero],hx.pl,hx.pr,fun i hi j hj=>by
      rw[List.take_zero]
      show cell p i j=cell p i j+0-0
      omega⟩
 obtain⟨s,h1,h2⟩:=this
 rw[List.take_of_length_le (Nat.le_refl _)] at h2
 exact⟨s.1,s.2,h1,h2⟩
theorem Z0 {k n:Nat}{l:List zC}(hk:l.length<k)(hl:wF n l)(i j:Nat):Ii k l i j=some (zT (gS i j) l):=by
 have lP:=hl.2
 obtain ⟨s, h1, h2⟩ := vY (L := fun c x (s : Int) => Pv k c l i j s x) (N := l.length) (fun s => s) (fun x s => s = zT (gS i j) (l.take x)) (fun c s hs=>by
   show EA k _ l i j s l.length=_
   unfold EA
   simp only [qC, aj (Nat.lt_irrefl _), ao]) (fun c x s hx hs=>by
   refine⟨zT (gS i j) (l.take (x+1)),?_,rfl⟩
   show EA k _ l i j s x=_
   have hb:=qt (hl.take x) i j
   have hm:yS n (l.getD x pd):=hl.1 _ (wY hx)
   have hg:=Ie hm i j
   have e:zT (gS i j) (l.take (x+1))=s+gS i j (l.getD x pd):=by
    rw[←jK l x pd hx,kp,hs]
    show _+(_+0)=_
    omega
   have w:=yA (x:=s+(l.getD x pd).2.2.2.1) (by have:=hm.a1;rw[hs];omega) (by have:=hm.a2;rw[hs];omega)
   unfold EA
   simp only[qZ,qY hx (show l.length<9223372036854775808 by omega),qC,aN,ai hx,aq]
   rw[e]
   unfold gS
   by_cases c1:(l.getD x pd).2.1=(i:Int)
   ·rw[ai c1]
    by_cases c2:(l.getD x pd).2.2.1=(j:Int)
    ·rw[ai c2,if_pos ⟨c1,c2⟩,w];rfl
    ·rw[aj c2,if_neg (fun e=>c2 e.2),Int.add_zero];rfl
   ·rw[aj c1,if_neg (fun e=>c1 e.1),Int.add_zero];rfl) (s:=0) hk rfl
 unfold Ii
 rw[h1]
 rw[List.take_of_length_le (Nat.le_refl _)] at h2
 rw[h2]
 rfl
theorem vC6 {k n:Nat}{l:List zC}(hk:l.length<k)(hl:wF n l)(i j:Nat):Pw k l i j=some (zT (gS i j) l-zT (gS j i) l):=by
 unfold Pw
 rw[Z0 hk hl i j,Z0 hk hl j i]
 have h1:=qt hl i j
 have h2:=qt hl j i
 simp only[an]
 rw[yA (by omega) (by omega)]
def gN (i:Nat)(p:zC):Int:=if p.2.1=i∧p.2.2.2.2.1=3 then p.2.2.2.1 else 0
theorem Ij {n:Nat}{p:zC}(h:yS n p)(i:Nat):0≤gN i p∧gN i p≤1099511627776:=by
 have h1:=h.a1;have h2:=h.a2
 unfold gN
 by_cases e:p.2.1=i∧p.2.2.2.2.1=3
 ·rw[if_pos e];omega
 ·rw[if_neg e];omega
theorem vL8 {n:Nat}{l:List zC}(h:wF n l)(i:Nat):0≤zT (gN i) l∧zT (gN i) l≤70368744177664:=by
 have h1:=za (g:=gN i) (A:=1099511627776) fun p hp=>by have:=Ij (h.1 p hp) i;omega
 have h0:=sX (g:=gN i) fun p hp=>(Ij (h.1 p hp) i).1
 have h2:=h.2
 have h3:(l.length:Int)*1099511627776≤70368744177664:=by omega
 omega
theorem yWo {k n:Nat}{l:List zC}(hk:l.length<k)(hl:wF n l)(i:Nat):Px k l i=some (zT (gN i) l,zT (gR i) l):=by
 have lP:=hl.2
 obtain ⟨s, h1, h2⟩ := vY (L := fun c x (s : Int × Int) => Py k c l i s.1 s.2 x) (N := l.length) (fun s => s) (fun x s => s = (zT (gN i) (l.take x), zT (gR i) (l.take x))) (fun c s hs=>by
   show EB k _ l i s.1 s.2 l.length=_
   unfold EB
   simp only [qC, aj (Nat.lt_irrefl _), ao]) (fun c x s hx hs=>by
   refine⟨(zT (gN i) (l.take (x+1)),zT (gR i) (l.take (x+1))),?_,rfl⟩
   show EB k _ l i s.1 s.2 x=_
   have hb:=vL8 (hl.take x) i
   have bB:=zp (hl.take x) i
   have hm:yS n (l.getD x pd):=hl.1 _ (wY hx)
   have e:zT (gN i) (l.take (x+1))=s.1+gN i (l.getD x pd):=by
    rw[←jK l x pd hx,kp,hs]
    show _+(_+0)=_
    omega
   have e':zT (gR i) (l.take (x+1))=s.2+gR i (l.getD x pd):=by
    rw[←jK l x pd hx,kp,hs]
    show _+(_+0)=_
    omega
   have w:=yA (x:=s.1+(l.getD x pd).2.2.2.1) (by have:=hm.a1;rw[hs];dsimp only;omega) (by have:=hm.a2;rw[hs];dsimp only;omega)
   have w':=yA (x:=s.2+(l.getD x pd).2.2.2.1) (by have:=hm.a1;rw[hs];dsimp only;omega) (by have:=hm.a2;rw[hs];dsimp only;omega)
   unfold EB
   simp only[qZ,qY hx (show l.length<9223372036854775808 by omega),qC,aN,ai hx,aq]
   rw[e,e']
   unfold gN gR
   by_cases c1:(l.getD x pd).2.1=(i:Int)
   ·rw[ai c1]
    by_cases c2:(l.getD x pd).2.2.2.2.1=3
    ·rw[ai c2,if_pos ⟨c1,c2⟩,if_neg (fun e=>e.2 c2),w,Int.add_zero];rfl
    ·rw[aj c2,if_neg (fun e=>c2 e.2),if_pos ⟨c1,c2⟩,w',Int.add_zero];rfl
   ·rw[aj c1,if_neg (fun e=>c1 e.1),if_neg (fun e=>c1 e.1),Int.add_zero,Int.add_zero];rfl) (s:=(0,0)) hk rfl
 unfold Px
 rw[h1]
 rw[List.take_of_length_le (Nat.le_refl _)] at h2
 rw[h2]
 rfl
theorem vIp {k n:Nat}{l:List zC}(hk:l.length<k)(hl:wF n l)(i:Nat):Pz k l i=some (zT (gR i) l):=by
 unfold Pz
 rw[yWo hk hl i]
 rfl
theorem vFq (k:Nat)(b c r s:Int)(h:-9223372036854775808≤r-s)(h':r<9223372036854775808)(hs:0≤s):PA k b c r s=some (wB r s):=by
 unfold PA wB
 by_cases e:s≥r
 ·rw[ai e,if_pos e];rfl
 ·rw[aj e,if_neg e,yA h (by omega)];rfl
theorem Z1 {n:Nat}{l:List zC}(hl:∀p∈l,yS n p)(i:Nat)(hi:i<n):qO (fun j=>zT (gS i j) l-zT (gS j i) l) n= -zT (gB i) l:=by
 have e1:qO (fun j=>zT (gS i j) l-zT (gS j i) l) n=qO (fun j=>zT (fun p=>gS i j p-gS j i p) l) n:=lN fun j _=>(O0 _ _ l).symm
 rw[e1,HV (fun j p=>gS i j p-gS j i p)]
 have e2:∀p∈l,qO (fun j=>gS i j p-gS j i p) n=0-gB i p:=by
  intro p hp
  obtain⟨f0,f1,t0,t1,ne,a1,a2,c1,c3⟩:=hl p hp
  obtain⟨f,hf⟩:∃f:Nat,p.2.1=f:=⟨p.2.1.toNat,by omega⟩
  obtain⟨t,ht⟩:∃t:Nat,p.2.2.1=t:=⟨p.2.2.1.toNat,by omega⟩
  have g1:∀j,gS i j p-gS j i p=(if j=t then(if f=i then p.2.2.2.1 else 0) else 0)+(if j=f then(if t=i then-p.2.2.2.1 else 0) else 0):=by
   intro j
   unfold gS
   rw[hf,ht]
   by_cases a:f=i<;>by_cases b:t=i<;>by_cases c:j=t<;>by_cases d:j=f<;>(repeat (first|rw[if_pos (by omega)]|rw[if_neg (by omega)]))<;>omega
  rw[lN fun j _=>g1 j,zb,vm,vm]
  unfold gB
  rw[hf,ht]
  by_cases a:f=i<;>by_cases b:t=i<;>(repeat (first|rw[if_pos (by omega)]|rw[if_neg (by omega)]))<;>omega
 rw[HU e2,O0]
 have:zT (fun _:zC=>(0:Int)) l=0:=by
  clear e1 e2 hl
  induction l with
  |nil=>rfl
  |cons p l ih=>show 0+zT _ l=0;rw[ih];rfl
 rw[this];omega
structure yXf (n:Nat) (a:List qM) (p:List (List Int)) (l:List zC) (i:Nat) (a':List qM) (p':List (List Int)):Prop where
 al:a'.length=n
 done:∀x,x<n→x<i→a'.getD x ad=((a.getD x ad).1+zT (gB x) l,(a.getD x ad).2.1,wB (a.getD x ad).2.2 (zT (gR x) l))
 rest:∀x,x<n→¬x<i→a'.getD x ad=a.getD x ad
 pl:p'.length=n
 pr:∀x,x<n→(p'.getD x []).length=n
 cell:∀x,x<n→∀y,y<n→cell p' x y=if x<i then cell p x y+zT (gS x y) l-zT (gS y x) l else cell p x y
structure PB (n:Nat) (a:List qM) (p:List (List Int)) (l:List zC) (i j:Nat) (a':List qM) (p':List (List Int)):Prop where
 al:a'.length=n
 done:∀x,x<n→x<i→a'.getD x ad=((a.getD x ad).1+zT (gB x) l,(a.getD x ad).2.1,wB (a.getD x ad).2.2 (zT (gR x) l))
 here:a'.getD i ad=((a.getD i ad).1-qO (fun j=>zT (gS i j) l-zT (gS j i) l) j,(a.getD i ad).2.1,wB (a.getD i ad).2.2 (zT (gR i) l))
 rest:∀x,x<n→i<x→a'.getD x ad=a.getD x ad
 pl:p'.length=n
 pr:∀x,x<n→(p'.getD x []).length=n
 cell:∀x,x<n→∀y,y<n→cell p' x y=if x<i∨(x=i∧y<j) then cell p x y+zT (gS x y) l-zT (gS y x) l else cell p x y
theorem yUu {k n:Nat}{a:List qM}{p:List (List Int)}{l:List zC}(hk:n<k)(di:l.length<k)(hn:n≤1000)(hx:Ih n a p)(hl:wF n l){i:Nat}(hi:i<n)(b0:List qM)(b1:List (List Int))(b2:List Int)(b3:List (List Int))(b:List (List Int))(m:List Int)
  {a0:List qM} {p0:List (List Int)} (h0:PB n a p l i 0 a0 p0):∃a' p',Ik k k l i 0 b0 b1 b2 b3 a0 b m p0=some (l,(i:Int),b0,b1,b2,b3,a',b,m,p')∧PB n a p l i n a' p':=by
 obtain ⟨s, h1, h2⟩ := vY (L := fun c j (s : List qM × List (List Int)) => Ik k c l i j b0 b1 b2 b3 s.1 b m s.2) (N := n) (fun s => (l, (i : Int), b0, b1, b2, b3, s.1, b, m, s.2)) (fun j s => PB n a p l i j s.1 s.2) (fun c s hs=>by
   show EC k _ l i n b0 b1 b2 b3 s.1 b m s.2=_
   unfold EC
   simp only [qC, hs.al, aj (Nat.lt_irrefl _), ao]) (fun c j s hj hs=>by
   refine⟨(s.1.set i (zA ((s.1.getD i ad).1-(zT (gS i j) l-zT (gS j i) l)),(s.1.getD i ad).2),s.2.set i ((s.2.getD i []).set j (zA ((s.2.getD i []).getD j 0+(zT (gS i j) l-zT (gS j i) l))))),?_,?_⟩
   ·show EC k _ l i j b0 b1 b2 b3 s.1 b m s.2=_
    unfold EC
    simp only[qZ,qY hj (show n<9223372036854775808 by omega),qC,aN,hs.al,hs.pl,hs.pr i hi,ai hi,ai hj,aq,vC6 di hl,an]
   ·have hb:=hx.bal i hi
    have hg:∀j,-70368744177664≤zT (gS i j) l-zT (gS j i) l∧zT (gS i j) l-zT (gS j i) l≤70368744177664:=fun j=>by
     have h1:=qt hl i j
     have h2:=qt hl j i
     omega
    have De:=Ee hg j
    have OQ:=hg j
    have hj1:(j:Int)*70368744177664≤1000*70368744177664:=by omega
    have ED:=hx.net i hi j hj
    have hc:=hs.cell i hi j hj
    rw[if_neg (by omega)] at hc
    refine⟨by simp only[List.length_set];exact hs.al,fun x gZ tc=>?_,?_,fun x gZ tc=>?_,by simp only[List.length_set];exact hs.pl,Ey hs.pl hs.pr hi,fun x gZ y EE=>?_⟩
    ·rw[wJ,if_neg (fun e=>by omega)]
     exact hs.done x gZ tc
    ·rw[wJ,if_pos ⟨rfl,by rw[hs.al];exact hi⟩,hs.here]
     dsimp only
     rw[yA (by omega) (by omega)]
     show(_,_)=((a.getD i ad).1-(qO _ j+_),_)
     rw[Int.sub_sub]
    ·rw[wJ,if_neg (fun e=>by omega)]
     exact hs.rest x gZ tc
    ·have e:(s.2.getD i []).getD j 0=cell p i j:=hc
     rw[Pu (by rw[hs.pl];exact hi) (by rw[hs.pr i hi];exact hj),e]
     by_cases Il:x=i∧y=j
     ·obtain⟨rfl,rfl⟩:=Il
      rw[if_pos ⟨rfl,rfl⟩,if_pos (by omega),yA (by omega) (by omega)]
      omega
     ·rw[if_neg Il,hs.cell x gZ y EE]
      by_cases h:x<i∨(x=i∧y<j)
      ·rw[if_pos h,if_pos (by omega)]
      ·rw[if_neg h,if_neg (by omega)]) (s:=(a0,p0)) hk h0
 exact⟨s.1,s.2,h1,h2⟩
theorem vAw {k n:Nat}{a:List qM}{b:List (List Int)}{m:List Int}{p:List (List Int)}{l:List zC}(hk:n<k)(di:l.length<k)(hn:n≤1000)(hx:Ih n a p)(hl:wF n l)(b0:List qM)(b1:List (List Int))(b2:List Int)(b3:List (List Int)):
  ∃a' p',Im k k l 0 b0 b1 b2 b3 a b m p=some (b0,b1,b2,b3,a',b,m,p')∧qu n a p l a' p':=by
 obtain ⟨s, h1, h2⟩ := vY (L := fun c i (s : List qM × List (List Int)) => Im k c l i b0 b1 b2 b3 s.1 b m s.2) (N := n) (fun s => (b0, b1, b2, b3, s.1, b, m, s.2)) (fun i s => yXf n a p l i s.1 s.2) (fun c s hs=>by
   show EF k _ l n b0 b1 b2 b3 s.1 b m s.2=_
   unfold EF
   simp only [qC, hs.al, aj (Nat.lt_irrefl _), ao]) (fun c i s hi hs=>by
   have PD:=hs.rest i hi (Nat.lt_irrefl i)
   have hr:=hx.res i hi
   have hsp:=zp hl i
   obtain⟨a',p',h1,h2⟩:=yUu (a0:=s.1.set i ((s.1.getD i ad).1,((s.1.getD i ad).2.1,wB (s.1.getD i ad).2.2 (zT (gR i) l)))) (p0:=s.2) hk di hn hx hl hi b0 b1 b2 b3 b m ⟨by rw[List.length_set];exact hs.al,fun x gZ tc=>by
     rw[wJ,if_neg (fun e=>by omega)];exact hs.done x gZ tc,by
     rw[wJ,if_pos ⟨rfl,by rw[hs.al];exact hi⟩,PD]
     show _=((a.getD i ad).1-0,_,_)
     rw[Int.sub_zero],fun x gZ tc=>by
     rw[wJ,if_neg (fun e=>by omega)];exact hs.rest x gZ (by omega),hs.pl,hs.pr,fun x gZ y EE=>by
     rw[hs.cell x gZ y EE]
     by_cases h:x<i
     ·rw[if_pos h,if_pos (.inl h)]
     ·rw[if_neg h,if_neg (by omega)]⟩
   refine⟨(a',p'),?_,?_⟩
   ·show EF k _ l i b0 b1 b2 b3 s.1 b m s.2=_
    unfold EF
    have hK:=vFq k (s.1.getD i ad).1 (s.1.getD i ad).2.1 (s.1.getD i ad).2.2 (zT (gR i) l) (by rw[PD];omega) (by rw[PD];omega) hsp.1
    simp only[qZ,qC,aN,hs.al,ai hi,aq,vIp di hl,an]
    rw[hK]
    simp only[an]
    rw[h1]
    simp only[an,qY hi (show n<9223372036854775808 by omega)]
   ·refine⟨h2.al,fun x gZ tc=>?_,fun x gZ tc=>h2.rest x gZ (by omega),h2.pl,h2.pr,fun x gZ y EE=>?_⟩
    ·by_cases h:x<i
     ·exact h2.done x gZ h
     ·have:x=i:=by omega
      subst this
      rw[h2.here,Z1 hl.1 x gZ]
      rw[Int.sub_neg]
    ·rw[h2.cell x gZ y EE]
     by_cases h:x<i+1
     ·rw[if_pos (by omega),if_pos h]
     ·rw[if_neg (by omega),if_neg h]) (s:=(a,p)) hk ⟨hx.al,fun x _ h=>absurd h (Nat.not_lt_zero x),fun x _ _=>rfl,hx.pl,hx.pr,fun x _ y _=>by rw[if_neg (Nat.not_lt_zero x)]⟩
 exact⟨s.1,s.2,h1,h2.al,fun i hi=>h2.done i hi hi,h2.pl,h2.pr,fun i hi j hj=>by rw[h2.cell i hi j hj,if_pos hi]⟩
def oO (a:List qM)(b:List (List Int))(m:List Int)(p:List (List Int))(l:List zC)(r:List qM×List (List Int)×List Int×List (List Int)×Int):Prop:=
 (wF a.length l→∃a' p',qu a.length a p l a' p'∧r=(bif kT a' b m p' then(a',b,m,p',0) else(a,b,m,p,8)))∧(¬wF a.length l→r=(a,b,m,p,1))
theorem Io {k:Nat}(hk:100<k){a:List qM}{b:List (List Int)}{m:List Int}{p:List (List Int)}{l:List zC}(h:wU a b m p)(hl:l.length≤80):∃r,nr k a b m p l=some r∧oO a b m p l r:=by
 unfold nr oO
 have e:decide (((l.length:Nat):Int)>64)=decide (¬l.length≤64):=by
  by_cases h:l.length≤64
  ·rw[aj (by omega),aj (by omega)]
  ·rw[ai (by omega),ai (by omega)]
 rw[e]
 by_cases dB:l.length≤64
 case neg=>
  rw[ai dB]
  exact⟨_,rfl,fun e=>absurd e.2 dB,fun _=>rfl⟩
 rw[aj (by omega),yWl (by omega) (by omega)]
 simp only[ao,an]
 cases hm:mv a.length l with
 |false=>
  refine⟨_,rfl,fun e=>?_,fun _=>rfl⟩
  rw[zn.2 e.1] at hm
  cases hm
 |true=>
  have aK:wF a.length l:=⟨zn.1 hm,dB⟩
  simp only[bd,ao,Eu (show 10<k by omega) h.toSized,an]
  obtain⟨a',p',h1,h2⟩:=vLa (b:=b) (m:=m) (show l.length<k by omega) h.nums aK a b m p
  rw[h1]
  simp only[an,vIs (show 10<k by omega)]
  cases hB:kT a' b m p' with
  |true=>exact⟨_,rfl,fun _=>⟨a',p',h2,by rw[hB];rfl⟩,fun e=>absurd aK e⟩
  |false=>exact⟨_,rfl,fun _=>⟨a',p',h2,by rw[hB];rfl⟩,fun e=>absurd aK e⟩
theorem vEy {k:Nat}(hk:100<k){a:List qM}{b:List (List Int)}{m:List Int}{p:List (List Int)}{l:List zC}(h:wU a b m p)(hl:l.length≤80):∃r,PE k a b m p l=some r∧oO a b m p l r:=by
 unfold PE oO
 rw[vLh (by omega) (by omega)]
 simp only[an]
 cases hm:mv a.length l with
 |false=>
  refine⟨_,rfl,fun e=>?_,fun _=>rfl⟩
  rw[zn.2 e.1] at hm
  cases hm
 |true=>
  by_cases dB:l.length≤64
  case neg=>
   rw[aj dB]
   exact⟨_,rfl,fun e=>absurd e.2 dB,fun _=>rfl⟩
  have aK:wF a.length l:=⟨zn.1 hm,dB⟩
  have h6:=h.n6
  rw[ai dB]
  simp only[Bool.and_true,bd,ao,vHl (show 10<k by omega) h.toSized,an]
  obtain⟨a',p',h1,h2⟩:=vAw (b:=b) (m:=m) (show a.length<k by omega) (show l.length<k by omega) (by omega) h.nums aK a b m p
  rw[h1]
  simp only[an,vL5 (show 10<k by omega)]
  cases hB:kT a' b m p' with
  |true=>exact⟨_,rfl,fun _=>⟨a',p',h2,by rw[hB];rfl⟩,fun e=>absurd aK e⟩
  |false=>exact⟨_,rfl,fun _=>⟨a',p',h2,by rw[hB];rfl⟩,fun e=>absurd aK e⟩
theorem oO.same {a:List qM}{b:List (List Int)}{m:List Int}{p:List (List Int)}{l:List zC}{r r':List qM×List (List Int)×List Int×List (List Int)×Int}(h:oO a b m p l r)(h':oO a b m p l r'):r=r':=by
 by_cases c:wF a.length l
 ·obtain⟨a1,p1,x,rfl⟩:=h.1 c
  obtain⟨a2,p2,y,rfl⟩:=h'.1 c
  obtain⟨rfl,rfl⟩:=x.same y
  rfl
 ·rw[h.2 c,h'.2 c]
theorem EG {a:List qM}{b:List (List Int)}{m:List Int}{p:List (List Int)}{l:List zC}{r:List qM×List (List Int)×List Int×List (List Int)×Int}(hb:wU a b m p)(h:oO a b m p l r):
  qO (fun i=>(r.1.getD i ad).1) a.length=qO (fun i=>(a.getD i ad).1) a.length∧wU r.1 r.2.1 r.2.2.1 r.2.2.2.1∧(r.2.2.2.2=0∨(r.1=a∧r.2.1=b∧r.2.2.1=m∧r.2.2.2.1=p)):=by
 by_cases c:wF a.length l
 ·obtain⟨a',p',x,e⟩:=h.1 c
  cases hi:kT a' b m p' with
  |false=>
   rw[hi] at e
   subst e
   exact⟨rfl,hb,.inr ⟨rfl,rfl,rfl,rfl⟩⟩
  |true=>
   rw[hi] at e
   subst e
   refine⟨?_,Ph.1 hi,.inl rfl⟩
   have e1:qO (fun i=>(a'.getD i ad).1) a.length=qO (fun i=>(a.getD i ad).1+zT (gB i) l) a.length:=lN fun j hj=>by rw[x.acct j hj]
   show qO (fun i=>(a'.getD i ad).1) a.length=_
   rw[e1,zb,HV]
   have e2:zT (fun p=>qO (fun j=>gB j p) a.length) l=zT (fun _=>(0:Int)) l:=HU fun p hp=>by
    obtain⟨f0,f1,t0,t1,ne,a1,a2,c1,c3⟩:=c.1 p hp
    obtain⟨f,hf⟩:∃f:Nat,p.2.1=f:=⟨p.2.1.toNat,by omega⟩
    obtain⟨t,ht⟩:∃t:Nat,p.2.2.1=t:=⟨p.2.2.1.toNat,by omega⟩
    have g1:∀j,gB j p=(if j=t then p.2.2.2.1 else 0)+(if j=f then-p.2.2.2.1 else 0):=by
     intro j
     unfold gB
     rw[hf,ht]
     by_cases c:j=t<;>by_cases d:j=f<;>(repeat (first|rw[if_pos (by omega)]|rw[if_neg (by omega)]))<;>omega
    rw[lN fun j _=>g1 j,zb,vm,vm,if_pos (by omega),if_pos (by omega)]
    omega
   have e3:∀l:List zC,zT (fun _:zC=>(0:Int)) l=0:=by
    intro l
    induction l with
    |nil=>rfl
    |cons p l ih=>show 0+zT _ l=0;rw[ih];rfl
   rw[e2,e3,Int.add_zero]
 ·have e:=h.2 c
  subst e
  exact⟨rfl,hb,.inr ⟨rfl,rfl,rfl,rfl⟩⟩
def vn (s c:Int):Int:=ke .u64 (shl .u64 s 8) (IntKind.wrap .u64 c)
def vJq (b:List Int):Int:=zA (b.foldl vn 0)
def EH:Nat→List Int→List Int
 |0,_=>[]
 |m+1,b=>vJq (b.take 8)::EH m (b.drop 8)
theorem vHf {x:List Int}{i:Nat}(h:i<x.length)(s:Int):(x.take (i+1)).foldl vn s=vn ((x.take i).foldl vn s) (x.getD i 0):=by
 rw[←jK x i 0 h,List.foldl_append];rfl
theorem vJ9 {k:Nat}(hk:9≤k)(s0 x r0:List Int)(hx:x.length=8):zu k k s0 0 x 8 0 r0=some (s0,x.foldl vn 0,r0):=by
 obtain ⟨s, h1, h2⟩ := vY (L := fun n i (s : Int) => zu k n s0 s x 8 i r0) (N := 8) (fun s => (s0, s, r0)) (fun i s => s = (x.take i).foldl vn 0) (fun n s _ => rfl) (fun n i s hi hs=>by
  refine⟨vn s (x.getD i 0),?_,by rw[vHf (by omega),hs]⟩
  show Ip k (zu k n) s0 s x 8 (i:Int) r0=_
  unfold Ip
  rw[ai (show(i:Int)<8 by omega),aq,fK (by omega) (by omega),aq,qY (N:=8) hi (by omega),aN]
  rfl) (n:=k) (s:=0) (by omega) rfl
 rw[List.take_of_length_le (by omega)] at h2
 subst h2
 exact h1
theorem Z2 {k:Nat}(hk:9≤k):∀(m n:Nat) (b r:List Int),b.length=8*m→m<n→r.length+m≤17592186044416→zv k n b r=some (r++EH m b)
 |0,n,b,r,hb,hn,_=>by
  obtain⟨n,rfl⟩:∃x,n=x+1:=⟨n-1,by omega⟩
  show zw k (zv k n) b r=_
  unfold zw
  rw[aj (by omega),ao]
  simp[EH]
 |m+1,n,b,r,hb,hn,hr=>by
  obtain⟨n,rfl⟩:∃x,n=x+1:=⟨n-1,by omega⟩
  show zw k (zv k n) b r=_
  unfold zw
  have ht:(b.take 8).length=8:=by rw[List.length_take];omega
  have e8:((b.take 8).length:Int)=8:=by rw[ht];rfl
  rw[ai (show(b.length:Int)>0 by omega),aq,ai (show(8:Int)≤(b.length:Int) by omega),aq,e8,vJ9 hk _ _ _ ht,an]
  dsimp only
  rw[yF (by omega) (by omega),aq,ai (show(8:Int)≤(b.length:Int) by omega),aq]
  rw[Z2 hk m n _ _ (by rw[List.length_drop];omega) (by omega) (by simp;omega)]
  show some ((r++[zA _])++EH m (b.drop 8))=_
  rw[List.append_assoc]
  rfl
theorem yWt (n:Nat):Int.tmod (n:Int) 8=((n%8:Nat):Int):=rfl
def mw (b:List Int):List Int×Int:=if b.length%8=0 then(EH (b.length/8) b,0) else([],2)
theorem vE3 {k:Nat}{b:List Int}(hk:9≤k)(hb:b.length<8*k)(bB:b.length≤140737488355328):qw k b=some (mw b):=by
 unfold qw mw
 rw[yWt]
 by_cases h:b.length%8=0
 ·rw[if_pos h,ai (by omega),Z2 hk (b.length/8) k b [] (by omega) (by omega) (by simp;omega)]
  rfl
 ·rw[if_neg h,aj (by omega)]
  rfl
def Z3:List Int:=[(-1),6,1,2,2,2,1,1,2,0,2,2,2,0,0,0,1,5,4,1,1,1,1,1]
def gn (x:Int):Int:=if 0≤x∧x<24 then Z3.getD x.toNat 0 else-1
theorem Z4 (k:Nat)(x:Int):EI k x=some (gn x):=by
 unfold EI gn
 by_cases h:x<0
 ·rw[ai h,if_neg (by omega)];rfl
 ·rw[aj h,ao]
  by_cases h2:x≥24
  ·rw[ai h2,if_neg (by omega)];rfl
  ·rw[aj h2,ao,fK (by omega) (by omega),aq,if_pos (by omega)]
   rfl
theorem yXg (k:Nat)(x:Int):qx k x=some (gn x):=by
 by_cases h:0≤x∧x<24
 ·obtain⟨n,rfl⟩:∃n:Nat,x=n:=⟨x.toNat,by omega⟩
  have hn:n<24:=by omega
  have:∀n:Nat,n<24→qx 0 (n:Int)=some (gn (n:Int)):=by decide
  exact this n hn
 ·have e:gn x= -1:=by unfold gn;rw[if_neg h]
  rw[e]
  unfold qx
  have ne:∀c:Int,0≤c→c<24→decide (x=c)=false:=fun c h1 h2=>aj (by omega)
  rw[ne 9 (by omega) (by omega),ne 13 (by omega) (by omega),ne 14 (by omega) (by omega),ne 15 (by omega) (by omega),ne 2 (by omega) (by omega),ne 6 (by omega) (by omega),ne 7 (by omega) (by omega),ne 16 (by omega) (by omega),
   ne 19 (by omega) (by omega),ne 20 (by omega) (by omega),ne 21 (by omega) (by omega),ne 22 (by omega) (by omega),ne 23 (by omega) (by omega),ne 3 (by omega) (by omega),ne 4 (by omega) (by omega),ne 5 (by omega) (by omega),ne 8 (by omega) (by omega),
   ne 10 (by omega) (by omega),ne 11 (by omega) (by omega),ne 12 (by omega) (by omega),ne 18 (by omega) (by omega),ne 17 (by omega) (by omega),ne 1 (by omega) (by omega)]
  rfl
abbrev td:Type:=Int×Int×Int×Int×Int×Int×Int
def Iq (b:List Int):td×Int:=
 if b=[] then((0,0,0,0,0,0,0),2)
 else if(mw (b.drop 1)).2≠0∨((mw (b.drop 1)).1.length:Int)≠gn (zA (b.getD 0 0)) then((0,0,0,0,0,0,0),2)
 else((zA (b.getD 0 0),(mw (b.drop 1)).1.getD 0 0,(mw (b.drop 1)).1.getD 1 0,(mw (b.drop 1)).1.getD 2 0,(mw (b.drop 1)).1.getD 3 0,(mw (b.drop 1)).1.getD 4 0,(mw (b.drop 1)).1.getD 5 0),0)
theorem vIo (l:List Int)(i:Nat):(bif Nat.blt i l.length then l.getD i 0 else 0)=l.getD i 0:=by
 by_cases h:i<l.length
 ·rw[show Nat.blt i l.length=true by simp[Nat.blt_eq,h]];rfl
 ·rw[show Nat.blt i l.length=false by
   cases e:Nat.blt i l.length with
   |false=>rfl
   |true=>rw[Nat.blt_eq] at e;omega]
  rw[List.getD_eq_getElem?_getD,List.getElem?_eq_none (by omega)];rfl
theorem Z5 {k:Nat}{b:List Int}(hk:9≤k)(hb:b.length<8*k)(bB:b.length≤140737488355328):lQ k b=some (Iq b):=by
 unfold lQ Iq
 cases b with
 |nil=>rfl
 |cons c l=>
  rw[if_neg (by simp)]
  have e0:((c::l).length:Int)=(l.length:Int)+1:=by simp
  rw[aj (by omega),ao,ai (show(1:Int)≤((c::l).length:Int) by omega),aq,vE3 hk (by simp at hb⊢;omega) (by simp at bB⊢;omega),an]
  by_cases h:(mw (List.drop 1 (c::l))).2=0
  ·rw[ai h,fK (by omega) (by simp),yXg]
   simp only[bd,ao,aq,an]
   by_cases h2:((mw (List.drop 1 (c::l))).1.length:Int)=gn (zA ((c::l).getD 0 0))
   ·rw[ai h2,if_neg (fun hh=>hh.elim (fun e=>e h) fun e=>e h2)]
    simp only[bd,ao,vIo]
   ·rw[aj h2,if_pos (.inr h2)]
    rfl
  ·rw[aj h,if_pos (.inl h)]
   rfl
theorem Z6 (x:Int):gn x≤6:=by
 unfold gn
 split
 ·rename_i h
  obtain⟨n,rfl⟩:∃n:Nat,x=n:=⟨x.toNat,by omega⟩
  have:∀n:Nat,n<24→Z3.getD n 0≤6:=by decide
  exact this n (by omega)
 ·omega
theorem vE9 {k:Nat}(hk:10≤k)(f:td):∃b,Ir k f=some b∧(b=true→0≤gn f.1):=by
 have key:∀(c n i:Nat),i+c=6→c<n→∀x:Int,∃z,EJ k n x (i:Int) f=some z∧(z=.inl x∨z=.inr false):=by
  intro c
  induction c with
  |zero=>
   intro n i h1 h2 x
   obtain⟨n,rfl⟩:∃m,n=m+1:=⟨n-1,by omega⟩
   obtain rfl:i=6:=by omega
   exact⟨_,rfl,.inl rfl⟩
  |succ c ih=>
   intro n i h1 h2 x
   obtain⟨n,rfl⟩:∃m,n=m+1:=⟨n-1,by omega⟩
   obtain⟨z,g1,g2⟩:=ih n (i+1) (by omega) (by omega) x
   have st:∀v:Int,∃z',(bif !decide (v=0) then some (.inr false) else EJ k n x ((i+1:Nat):Int) f)=some z'∧(z'=.inl x∨z'=.inr false):=fun v=>by
    cases decide (v=0) with
    |true=>exact⟨z,g1,g2⟩
    |false=>exact⟨_,rfl,.inr rfl⟩
   have:i=0∨i=1∨i=2∨i=3∨i=4∨i=5:=by omega
   rcases this with rfl|rfl|rfl|rfl|rfl|rfl
   ·exact st f.2.1
   ·exact st f.2.2.1
   ·exact st f.2.2.2.1
   ·exact st f.2.2.2.2.1
   ·exact st f.2.2.2.2.2.1
   ·exact st f.2.2.2.2.2.2
 have hm:=Z6 f.1
 have e:wC false (gn f.1) 0=(((gn f.1).toNat:Nat):Int):=by
  unfold wC
  by_cases h:gn f.1<0
  ·simp[h];omega
  ·simp[h];omega
 obtain⟨z,g1,g2⟩:=key (6-(gn f.1).toNat) k (gn f.1).toNat (by omega) (by omega) (gn f.1)
 unfold Ir
 rw[Z4,an,e,g1,an]
 rcases g2 with rfl|rfl
 ·exact⟨_,rfl,fun h=>vk h⟩
 ·exact⟨_,rfl,fun h=>by cases h⟩
theorem vEj {k:Nat}(hk:10≤k){l:List Int}(hl:l.length≤6):∃b,Is k l=some b∧b.length=8*l.length:=by
 have one:∀(j:Nat) (hj:j<l.length) (c n:Nat),c<n→c≤8→∀r:List Int,r.length+c≤1000→∃b,zx k n l (j:Int) (8*(c:Int)-8) r=some (l,(j:Int),b)∧b.length=r.length+c:=by
  intro j hj c
  induction c with
  |zero=>
   intro n h1 _ r hr
   obtain⟨n,rfl⟩:∃m,n=m+1:=⟨n-1,by omega⟩
   exact⟨r,rfl,rfl⟩
  |succ c ih=>
   intro n h1 h2 r hr
   obtain⟨n,rfl⟩:∃m,n=m+1:=⟨n-1,by omega⟩
   obtain⟨b,g1,g2⟩:=ih n (by omega) (by omega) (r++[(IntKind.wrap .u8 ((shr .u64 (IntKind.wrap .u64 ((l.getD (j:Int).toNat 0))) (IntKind.wrap .u64 (8*((c+1:Nat):Int)-8)))))]) (by rw[List.length_append];simp;omega)
   refine⟨b,?_,by rw[g2,List.length_append];simp;omega⟩
   show Iu k (zx k n) l _ _ r=_
   unfold Iu
   have w:IntKind.wrap .u64 (8*((c+1:Nat):Int)-8)=8*((c+1:Nat):Int)-8:=by
    unfold IntKind.wrap
    simp only[IntKind.bits,IntKind.signed,Bool.false_and]
    simp
    omega
   rw[ai (by omega),aq,fK (by omega) (by omega),aq]
   rw[show decide (IntKind.wrap .u64 (8*((c+1:Nat):Int)-8)<0)=false from aj (by rw[w];omega),eC,aq,yF (by omega) (by omega),aq]
   rw[show zA (8*((c+1:Nat):Int)-8-8)=8*(c:Int)-8 by rw[yA (by omega) (by omega)];omega]
   exact g1
 have all:∀(c n j:Nat),j+c=l.length→c<n→∀r:List Int,r.length=8*j→∃b,vp k n l (j:Int) r=some b∧b.length=8*l.length:=by
  intro c
  induction c with
  |zero=>
   intro n j h1 h2 r hr
   obtain⟨n,rfl⟩:∃m,n=m+1:=⟨n-1,by omega⟩
   refine⟨r,?_,by omega⟩
   show zy k (vp k n) l _ r=_
   unfold zy
   rw[aj (by omega)]
   rfl
  |succ c ih=>
   intro n j h1 h2 r hr
   obtain⟨n,rfl⟩:∃m,n=m+1:=⟨n-1,by omega⟩
   obtain⟨b,g1,g2⟩:=one j (by omega) 8 k (by omega) (by omega) r (by omega)
   obtain⟨b',p1,p2⟩:=ih n (j+1) (by omega) (by omega) b (by omega)
   refine⟨b',?_,p2⟩
   show zy k (vp k n) l _ r=_
   unfold zy
   rw[ai (by omega),aq]
   have g1:zx k k l (j:Int) 56 r=some (l,(j:Int),b):=g1
   rw[g1,an]
   dsimp only
   rw[qY (show j<l.length by omega) (by omega)]
   exact p1
 obtain⟨b,g1,g2⟩:=all l.length k 0 (by omega) (by omega) [] rfl
 unfold Is
 have g1:vp k k l 0 []=some b:=g1
 rw[g1]
 exact⟨b,rfl,g2⟩
theorem vGv {k:Nat}(hk:10≤k)(f:td):∃b,Iv k f=some b∧b.length≤49:=by
 unfold Iv
 obtain⟨b,h1,h2⟩:=vE9 hk f
 rw[h1,an]
 cases b with
 |false=>exact⟨[],rfl,by decide⟩
 |true=>
  have hn:=h2 rfl
  have hm:=Z6 f.1
  rw[bd,ao,Z4,an,ai hn,ai hm]
  have hl:(yB [f.2.1,f.2.2.1,f.2.2.2.1,f.2.2.2.2.1,f.2.2.2.2.2.1,f.2.2.2.2.2.2] 0 ((gn f.1).toNat-0)).length≤6:=by
   unfold yB
   rw[List.length_take,List.length_drop]
   simp
   omega
  generalize yB [f.2.1,f.2.2.1,f.2.2.2.1,f.2.2.2.2.1,f.2.2.2.2.2.1,f.2.2.2.2.2.2] 0 ((gn f.1).toNat-0)=l at hl⊢
  obtain⟨b,g1,g2⟩:=vEj hk hl
  rw[Bool.and_self,aq,g1,an,yF (by omega) (by omega),aq]
  exact⟨_,rfl,by rw[List.length_append,List.length_singleton];omega⟩
theorem Z7 {a:List qM}{b:List (List Int)}{m:List Int}{p:List (List Int)}(hb:wU a b m p){i:Nat}(hi:i<a.length)(j:Nat):-72057594037927936≤cell p i j∧cell p i j≤72057594037927936:=by
 by_cases hj:j<a.length
 ·have:=hb.net i hi j hj
  simp only[fL,bU,bN] at this
  omega
 ·have:cell p i j=0:=by
   unfold cell
   rw[List.getD_eq_getElem?_getD,List.getElem?_eq_none]
   ·rfl
   ·rw[hb.pr i hi];omega
  omega
theorem Z8 {S X:Type}{L:Nat→Int→S→Option X}{N:Nat}(ok:Nat→Bool)(e:S→X)(b:X)(inv:Nat→S→Prop)(bK:∀n s,inv N s→L (n+1) (N:Int) s=some (e s))
  (aF:∀n i s,i<N→inv i s→(ok i=true→∃s',L (n+1) (i:Int) s=L n ((i+1:Nat):Int) s'∧inv (i+1) s')∧(ok i=false→L (n+1) (i:Int) s=some b)):
  ∀c i n s,i+c=N→c<n→inv i s→(qK ok c i=true∧∃s',L n (i:Int) s=some (e s')∧inv N s')∨(qK ok c i=false∧L n (i:Int) s=some b)
 |0,i,n,s,h,hn,hs=>by
  obtain⟨n,rfl⟩:∃m,n=m+1:=⟨n-1,by omega⟩
  have:i=N:=by omega
  subst this
  exact .inl ⟨rfl,s,bK n s hs,hs⟩
 |c+1,i,n,s,h,hn,hs=>by
  obtain⟨n,rfl⟩:∃m,n=m+1:=⟨n-1,by omega⟩
  obtain⟨h1,h2⟩:=aF n i s (by omega) hs
  unfold qK
  cases ho:ok i with
  |true=>
   obtain⟨s',h3,h4⟩:=h1 ho
   rw[h3]
   simp only[Bool.true_and]
   exact Z8 ok e b inv bK aF c (i+1) n s' (by omega) (by omega) h4
  |false=>exact .inr ⟨rfl,h2 ho⟩
def dS (l:List zC)(i j:Nat):Int:=zT (gS i j) l-zT (gS j i) l
def EK (b p:List (List Int))(l:List zC)(i j:Nat):Bool:= !(decide (zT (gS i j) l>0)&&(!decide (cell b i j= -1)&&decide (cell p i j+dS l i j>cell b i j)))
def hY (a:List qM)(b:List (List Int))(m:List Int)(p:List (List Int))(l:List zC)(i:Nat):Bool:=
 !decide (zT (gN i) l + zT (gR i) l = 0) && (!qK (EK b p l i) a.length 0 || (decide ((a.getD i ad).1+(a.getD i ad).2.1+zT (gB i) l<0)||
  ((decide (zT (gN i) l>0)&&decide ((a.getD i ad).1+(a.getD i ad).2.1+zT (gB i) l<wB (a.getD i ad).2.2 (zT (gR i) l)))||
   (!decide (m.getD i 0= -1)&&decide (qO (cell p i) a.length-zT (gB i) l>m.getD i 0)))))
theorem Iw {n:Nat}{l:List zC}(hl:wF n l)(i j:Nat):-70368744177664≤dS l i j∧dS l i j≤70368744177664:=by
 have h1:=qt hl i j
 have h2:=qt hl j i
 unfold dS
 omega
theorem vDb {n:Nat}{l:List zC}(hl:∀p∈l,yS n p)(i:Nat)(hi:i<n):qO (dS l i) n= -zT (gB i) l:=Z1 hl i hi
def zz (a:List qM)(b:List (List Int))(m:List Int)(p:List (List Int))(l:List zC):Bool:=(mv a.length l&&decide (l.length≤64))&&qK (fun i=> !hY a b m p l i) a.length 0
theorem vGd {k n i:Nat}{p:List (List Int)}(hk:n<k)(hn:n≤100)(hi:i<n)(hp:p.length=n)(hr:(p.getD i []).length=n)(hb:∀j,-72057594037927936≤cell p i j∧cell p i j≤72057594037927936)(a:List qM)(b:List (List Int))(m:List Int):
  Ix k a b m p i=some (qO (cell p i) n):=by
 obtain ⟨s, h1, h2⟩ := vY (L := fun c j (s : Int) => z9 k c s (p.getD i []) n j) (N := n) (fun s => s) (fun j s => s = qO (cell p i) j) (fun c s hs=>by
   show Au k _ s (p.getD i []) n n=_
   unfold Au
   simp only [qC, aj (Nat.lt_irrefl _), ao]) (fun c j s hj hs=>by
   refine⟨qO (cell p i) (j+1),?_,rfl⟩
   show Au k _ s (p.getD i []) n j=_
   have h1:=Ee hb j
   have h2:=hb j
   have h3:(j:Int)*72057594037927936≤100*72057594037927936:=by omega
   unfold Au
   simp only[qZ,qY hj (show n<9223372036854775808 by omega),qC,aN,hr,ai hj,aq]
   show z9 k c (zA (s+cell p i j)) _ _ _=_
   rw[hs,yA (by omega) (by omega)]
   rfl) (s:=0) hk rfl
 unfold Ix
 simp only[qZ,hp,ai hi,aq,aN,hr]
 rw[h1,h2]
 rfl
theorem Z9 (k:Nat){n:Nat}(hn:n≤6):EL k n=some true:=by
 unfold EL
 rw[ai (by omega),ai (by omega)];rfl
theorem yJ4 {α:Type}(v z:α)(n i:Nat)(hi:i<n):(List.replicate i v++List.replicate (n-i) z).set i v=List.replicate (i+1) v++List.replicate (n-(i+1)) z:=by
 have e:List.replicate (n-i) z=z::List.replicate (n-(i+1)) z:=by
  rw[show n-i=(n-(i+1))+1 by omega];rfl
 rw[List.set_append_right _ _ (by simp),List.length_replicate,Nat.sub_self,e]
 simp[List.replicate_succ']
theorem yHd {n b:Nat}(hn:n≤1000)(hb:b≤1000):lL (n:Int) (n:Int) b=true:=by
 unfold lL
 have h:(n:Int)*(b:Int)≤1000000:=by
  have:n*b≤1000*1000:=Nat.mul_le_mul hn hb
  have e:((n*b:Nat):Int)=(n:Int)*(b:Int):=by simp
  omega
 simp only[bU,bN]
 omega
theorem yMb {k n:Nat}(hk:n<k)(hn:n≤6)(v:Int):vq k n v=some (List.replicate n v):=by
 unfold vq
 rw[Z9 k hn]
 obtain ⟨s, h1, h2⟩ := vY (L := fun c i (s : List Int) => EM k c v n i s) (N := n) (fun s => s) (fun i s => s = List.replicate i v ++ List.replicate (n - i) 0) (fun c s hs=>by
   show Av k _ v n n s=_
   unfold Av
   simp only [qC, aj (Nat.lt_irrefl _), ao]) (fun c i s hi hs=>by
   refine⟨_,?_,rfl⟩
   show Av k _ v n i s=_
   have hl:s.length=n:=by rw[hs];simp;omega
   unfold Av
   simp only[qZ,qY hi (show n<9223372036854775808 by omega),qC,aN,ai hi,aq,hl]
   rw[hs,yJ4 v 0 n i hi]) (s:=List.replicate n 0) hk (by simp)
 simp only[an,bd,ao,yHd (n:=n) (b:=8) (by omega) (by omega),aq,aN,List.length_replicate]
 rw[h1,h2]
 simp
theorem vJ2 {k n:Nat}(hk:n<k)(hn:n≤6)(v:Int):Aw k n v=some (List.replicate n (List.replicate n v)):=by
 unfold Aw
 rw[Z9 k hn]
 obtain ⟨s, h1, h2⟩ := vY (L := fun c i (s : List (List Int)) => EN k c n v n i s) (N := n) (fun s => s) (fun i s => s = List.replicate i (List.replicate n v) ++ List.replicate (n - i) []) (fun c s hs=>by
   show Ax k _ n v n n s=_
   unfold Ax
   simp only [qC, aj (Nat.lt_irrefl _), ao]) (fun c i s hi hs=>by
   refine⟨_,?_,rfl⟩
   show Ax k _ n v n i s=_
   have hl:s.length=n:=by rw[hs];simp;omega
   unfold Ax
   simp only[qZ,qY hi (show n<9223372036854775808 by omega),qC,aN,ai hi,aq,hl,yMb hk hn,an]
   rw[hs,yJ4 (List.replicate n v) [] n i hi]) (s:=List.replicate n []) hk (by simp)
 simp only[an,bd,ao,yHd (n:=n) (b:=24) (by omega) (by omega),aq,aN,List.length_replicate]
 rw[h1,h2]
 simp
def vr (a:List qM)(b:List (List Int))(m:List Int)(p:List (List Int))(l:List zC):List Int:=((List.range a.length).filter fun i=>hY a b m p l i).map fun(i:Nat)=>(i:Int)
structure Iy (n:Nat) (l:List zC) (r2 r3:List Int) (m4:List (List Int)):Prop where
 l2:r2.length=n
 l3:r3.length=n
 l4:m4.length=n
 r4:∀i,i<n→(m4.getD i []).length=n
 more:∀i,i<n→r2.getD i 0=zT (gB i) l
 spent:∀i,i<n→r3.getD i 0=zT (gR i) l
 sent:∀i,i<n→∀j,j<n→cell m4 i j=dS l i j
def EO (p:zC)(r:List Int):List Int:=
 let y0:=r.set p.2.1.toNat (zA (r.getD p.2.1.toNat 0-p.2.2.2.1))
 y0.set p.2.2.1.toNat (zA (y0.getD p.2.2.1.toNat 0+p.2.2.2.1))
def EP (p:zC)(r:List Int):List Int:=bif !decide (p.2.2.2.2.1=3) then r.set p.2.1.toNat (zA (r.getD p.2.1.toNat 0+p.2.2.2.1)) else r
theorem yXe {n:Nat}{p:zC}(h:yS n p){r:List Int}(hr:r.length=n){i:Nat}(hi:i<n)(hb:∀i,i<n→-4611826755915743232<r.getD i 0∧r.getD i 0<4611826755915743232):(EO p r).getD i 0=r.getD i 0+gB i p:=by
 obtain⟨f0,f1,t0,t1,ne,a1,a2,c1,c3⟩:=h
 obtain⟨f,hf⟩:∃f:Nat,p.2.1=f:=⟨p.2.1.toNat,by omega⟩
 obtain⟨t,ht⟩:∃t:Nat,p.2.2.1=t:=⟨p.2.2.1.toNat,by omega⟩
 have Ez:f≠t:=by omega
 have fM:f<n:=by omega
 have eZ:t<n:=by omega
 unfold EO gB
 simp only[hf,ht,aN]
 have b1:=hb f fM
 have b2:=hb t eZ
 have key:∀x,(r.set f (zA (r.getD f 0-p.2.2.2.1))).getD x 0=if f=x then zA (r.getD f 0-p.2.2.2.1) else r.getD x 0:=fun x=>by
  rw[wJ]
  by_cases e:f=x
  ·rw[if_pos ⟨e,by omega⟩,if_pos e]
  ·rw[if_neg (fun h=>e h.1),if_neg e]
 rw[wJ,List.length_set,key t,if_neg Ez,key i]
 by_cases h1:t=i
 ·subst h1
  rw[if_pos ⟨rfl,by omega⟩,if_pos rfl,if_neg (by omega),yA (by omega) (by omega)]
  omega
 ·rw[if_neg (fun e=>h1 e.1),if_neg (c:=((t:Int)=i)) (by omega)]
  by_cases h2:f=i
  ·subst h2
   rw[if_pos rfl,if_pos rfl,yA (by omega) (by omega)]
   omega
  ·rw[if_neg h2,if_neg (by omega)]
   omega
theorem vDc {n:Nat}{p:zC}(h:yS n p){r:List Int}(hr:r.length=n){i:Nat}(hi:i<n)(hb:∀i,i<n→-4611826755915743232<r.getD i 0∧r.getD i 0<4611826755915743232):(EP p r).getD i 0=r.getD i 0+gR i p:=by
 obtain⟨f0,f1,t0,t1,ne,a1,a2,c1,c3⟩:=h
 obtain⟨f,hf⟩:∃f:Nat,p.2.1=f:=⟨p.2.1.toNat,by omega⟩
 have fM:f<n:=by omega
 have b1:=hb f fM
 unfold EP gR
 simp only[hf,aN]
 by_cases hc:p.2.2.2.2.1=3
 ·rw[ai hc,if_neg (fun e=>e.2 hc)]
  simp
 ·rw[aj hc]
  simp only[eC,aq]
  rw[wJ]
  by_cases h2:f=i
  ·subst h2
   rw[if_pos ⟨rfl,by omega⟩,if_pos ⟨rfl,hc⟩,yA (by omega) (by omega)]
  ·rw[if_neg (fun e=>h2 e.1),if_neg (fun e=>h2 (by omega))]
   omega
theorem vG2 (l:List zC)(p:zC)(i j:Nat):dS (l++[p]) i j=dS l i j+gS i j p-gS j i p:=by
 unfold dS
 rw[kp,kp]
 dsimp only[zT]
 omega
theorem ER {α:Type}(n i:Nat)(v d:α)(h:i<n):(List.replicate n v).getD i d=v:=by
 simp[List.getD,h]
theorem vI1 {k n:Nat}{l:List zC}(hk:100<k)(hn:n≤6)(hl:wF n l):∃r2 r3 m4,Iz k n l=some (r2,r3,m4)∧Iy n l r2 r3 m4:=by
 have lP:=hl.2
 have := vY (L := fun c i (s : List Int × List Int × List (List Int)) => Ay k c l l.length i s.1 s.2.1 s.2.2) (N := l.length) (fun s => s) (fun i s => Iy n (l.take i) s.1 s.2.1 s.2.2) (fun c s hs=>by
   show Az k _ l l.length l.length s.1 s.2.1 s.2.2=_
   unfold Az
   simp only [qC, aj (Nat.lt_irrefl _), ao]) (fun c i s hi hs=>by
   have cc:yS n (l.getD i pd):=hl.1 _ (wY hi)
   refine⟨(EO (l.getD i pd) s.1,EP (l.getD i pd) s.2.1,sZ (l.getD i pd) s.2.2),?_,?_⟩
   ·show Az k _ l l.length i s.1 s.2.1 s.2.2=_
    unfold Az EO EP sZ
    simp only[qZ,qY hi (show l.length<9223372036854775808 by omega),qC,aN,ai hi,aq]
    obtain⟨f0,f1,t0,t1,ne,a1,a2,c1,c3⟩:=cc
    obtain⟨f,hf⟩:∃f:Nat,(l.getD i pd).2.1=f:=⟨(l.getD i pd).2.1.toNat,by omega⟩
    obtain⟨t,ht⟩:∃t:Nat,(l.getD i pd).2.2.1=t:=⟨(l.getD i pd).2.2.1.toNat,by omega⟩
    have fM:f<n:=by omega
    have eZ:t<n:=by omega
    have r1:=Ey (x:=zA ((s.2.2.getD f []).getD t 0+(l.getD i pd).2.2.2.1)) (t:=t) hs.l4 hs.r4 fM
    simp only[hf,ht,aN,qZ,hs.l2,hs.l3,hs.l4,List.length_set,hs.r4 f fM,r1 t eZ,ai fM,ai eZ,aq]
    cases decide ((l.getD i pd).2.2.2.2.1=3)<;>rfl
   ·have aK:=hl.take i
    have hp := ZZ cc hs.l4 hs.r4 (fun i' bS j' fe=>by
     rw[hs.sent i' bS j' fe]
     have:=Iw aK i' j'
     omega)
    have hbM:∀i',i'<n→-4611826755915743232<s.1.getD i' 0∧s.1.getD i' 0<4611826755915743232:=fun i' bS=>by
     rw[hs.more i' bS];have:=Pt aK i';omega
    have hbS:∀i',i'<n→-4611826755915743232<s.2.1.getD i' 0∧s.2.1.getD i' 0<4611826755915743232:=fun i' bS=>by
     rw[hs.spent i' bS];have:=zp aK i';omega
    refine⟨by unfold EO;simp[hs.l2],by unfold EP;cases decide ((l.getD i pd).2.2.2.2.1=3)<;>simp[hs.l3],hp.1,hp.2.1,fun i' bS=>?_,fun i' bS=>?_,fun i' bS j' fe=>?_⟩
    ·rw[yXe cc hs.l2 bS hbM,hs.more i' bS,←jK l i pd hi,kp]
     dsimp only[zT]
     omega
    ·rw[vDc cc hs.l3 bS hbS,hs.spent i' bS,←jK l i pd hi,kp]
     dsimp only[zT]
     omega
    ·rw[hp.2.2 i' bS j' fe,hs.sent i' bS j' fe,←jK l i pd hi,vG2]) (n:=k) (s:=(List.replicate n 0,List.replicate n 0,List.replicate n (List.replicate n 0))) (by omega) ⟨by simp,by simp,by simp,fun i hi=>by rw[ER n i _ _ hi];simp,fun i hi=>by rw[ER n i _ _ hi];rfl,fun i hi=>by rw[ER n i _ _ hi];rfl,fun i hi j hj=>by
    unfold cell
    rw[ER n i _ _ hi,ER n j _ _ hj]
    rfl⟩
 obtain⟨s,h1,h2⟩:=this
 rw[List.take_of_length_le (Nat.le_refl _)] at h2
 refine⟨s.1,s.2.1,s.2.2,?_,h2⟩
 unfold Iz
 rw[yMb (by omega) hn,vJ2 (by omega) hn]
 simp only[an]
 have eH:Ay k k l l.length 0 (List.replicate n 0) (List.replicate n 0) (List.replicate n (List.replicate n 0))=some s:=h1
 rw[eH]
 rfl
theorem vFx {k:Nat}{l:List zC}(hk:l.length<k)(hl:l.length<9223372036854775808)(i:Int):IA k l i=some (!qK (fun x=> !decide ((l.getD x pd).2.1=i)) l.length 0):=by
 obtain ⟨x, h1, h2⟩ := sW (L := fun c x => ES k c l l.length x i) (N := l.length) (fun x => decide ((l.getD x pd).2.1 = i)) (fun c=>by
   show AA k _ l l.length l.length i=_
   unfold AA
   simp only [qC, aj (Nat.lt_irrefl _), ao]) (fun c x hx=>by
   show AA k _ l l.length x i=_
   unfold AA PF
   simp only[qZ,qY hx hl,qC,aN,ai hx,aq,an]) hk
 unfold IA PG
 rw[h1]
 rw[←h2]
 cases x<;>rfl
theorem yAt {n:Nat}{l:List zC}(hl:∀p∈l,yS n p)(i:Nat):qK (fun x=> !decide ((l.getD x pd).2.1=i)) l.length 0=decide (zT (gN i) l+zT (gR i) l=0):=by
 have hN:=sX (g:=gN i) (l:=l) fun p hp=>(Ij (hl p hp) i).1
 have hR:=sX (g:=gR i) (l:=l) fun p hp=>(Ig (hl p hp) i).1
 have e:zT (gN i) l+zT (gR i) l=zT (fun p:zC=>if p.2.1=(i:Int) then p.2.2.2.1 else 0) l:=by
  rw[←ZL]
  refine HU fun p hp=>?_
  unfold gN gR
  by_cases h1:p.2.1=i<;>by_cases h2:p.2.2.2.2.1=3<;>simp[h1,h2]
 rw[e]
 have h:∀(l:List zC),(∀p∈l,yS n p)→((∀p∈l,¬p.2.1=i)↔zT (fun p:zC=>if p.2.1=(i:Int) then p.2.2.2.1 else 0) l=0):=by
  intro l
  induction l with
  |nil=>intro _;simp[zT]
  |cons q l ih=>
   intro hm
   have ih:=ih fun p hp=>hm p (List.mem_cons_of_mem _ hp)
   have hq:=hm q (List.mem_cons_self ..)
   have h0:0≤zT (fun p:zC=>if p.2.1=i then p.2.2.2.1 else 0) l:=sX fun p hp=>by
    have:=(hm p (List.mem_cons_of_mem _ hp)).a1
    by_cases c:p.2.1=i
    ·rw[if_pos c];omega
    ·rw[if_neg c];exact Int.le_refl 0
   unfold zT
   by_cases c:q.2.1=i
   ·rw[if_pos c]
    have:=hq.a1
    exact⟨fun h=>absurd c (h q (List.mem_cons_self ..)),fun h=>by omega⟩
   ·rw[if_neg c,Int.zero_add,←ih]
    exact⟨fun h p hp=>h p (List.mem_cons_of_mem _ hp),fun h p hp=>by
     rcases List.mem_cons.1 hp with rfl|hp
     ·exact c
     ·exact h p hp⟩
 have bn:(∀p∈l,¬p.2.1=i)↔qK (fun x=> !decide ((l.getD x pd).2.1=i)) l.length 0=true:=by
  rw[gY]
  constructor
  ·intro h j hj
   simpa using h _ (wY hj)
  ·intro h p hp
   obtain⟨j,hj,rfl⟩:=List.getElem_of_mem hp
   have:=h j hj
   simpa[List.getD,hj] using this
 have:=bn.symm.trans (h l hl)
 cases hc:qK (fun x=> !decide ((l.getD x pd).2.1=i)) l.length 0 with
 |true=>rw[ai (this.1 hc)]
 |false=>
  rw[aj]
  intro h'
  rw[this.2 h'] at hc;cases hc
def vt (n AB:Int):Bool:= !decide (AB= -1)&&decide (n>AB)
theorem yM2 (k:Nat)(n AB:Int):AE k n AB=some (vt n AB):=by
 unfold AE vt
 cases decide (AB= -1)<;>rfl
theorem vFw (k:Nat)(b c r s:Int)(h:-9223372036854775808≤r-s)(h':r<9223372036854775808)(hs:0≤s):ta k b c r s=some (wB r s):=by
 unfold ta wB wC
 rw[yA h (by omega),ao]
 by_cases c:s≥r
 ·rw[if_pos c]
  by_cases e:r-s=0
  ·rw[e];rfl
  ·rw[ai (show(0:Int)>r-s by omega)];rfl
 ·rw[if_neg c,aj (show¬(0:Int)>r-s by omega)];rfl
def vu (b p:List (List Int))(l:List zC)(i:Nat)(short:Bool)(q:zC):Bool:=
 decide (q.2.1=i)&&((decide (q.2.2.2.2.1=3)&&short)||vt (cell p i q.2.2.1.toNat+dS l i q.2.2.1.toNat) (cell b i q.2.2.1.toNat))
theorem vDr {k:Nat}{a:List qM}{b:List (List Int)}{m:List Int}{p:List (List Int)}{l:List zC}(hk:100<k)(hb:wU a b m p)(hl:wF a.length l){r2 r3:List Int}{m4:List (List Int)}(hm:Iy a.length l r2 r3 m4){i:Nat}(hi:i<a.length)(bal cr res n0:Int)(j8:0≤res∧res≤2305843009213693952):
  IB k l i bal cr res r2 r3 m4 n0 a b m p=some (!qK (fun x=> !vu b p l i (decide (n0<wB res (zT (gR i) l))) (l.getD x pd)) l.length 0):=by
 have h6:=hb.n6
 have lP:=hl.2
 have hR:=zp hl i
 obtain ⟨x, h1, h2⟩ := sW (L := fun c x => ET k c l l.length x i bal cr res r2 r3 m4 n0 a b m p) (N := l.length) (fun x => vu b p l i (decide (n0 < wB res (zT (gR i) l))) (l.getD x pd)) (fun c=>by
   show AF k _ l l.length l.length i bal cr res r2 r3 m4 n0 a b m p=_
   unfold AF
   simp only [qC, aj (Nat.lt_irrefl _), ao]) (fun c x hx=>by
   show AF k _ l l.length x i bal cr res r2 r3 m4 n0 a b m p=_
   have cc:yS a.length (l.getD x pd):=hl.1 _ (wY hx)
   unfold AF
   simp only[qZ,qY hx (show l.length<9223372036854775808 by omega),qC,aN,ai hx,aq]
   generalize l.getD x (0,(0,(0,(0,(0,(0,0))))))=q at cc⊢
   obtain⟨id,f,t,am,cl,st,ti⟩:=q
   obtain⟨f0,f1,t0,t1,ne,a1,a2,c1,c3⟩:=cc
   dsimp only at f0 f1 t0 t1 ne a1 a2 c1 c3⊢
   obtain⟨t,rfl⟩:∃y:Nat,t=y:=⟨t.toNat,by omega⟩
   have eZ:t<a.length:=by omega
   unfold PH vu
   dsimp only
   cases hf:decide (f=(i:Int)) with
   |false=>simp
   |true=>
    have e1:(r3.getD i 0)=zT (gR i) l:=hm.spent i hi
    have e2:(m4.getD i []).getD t 0=dS l i t:=hm.sent i hi t eZ
    have ED:=hb.nums.net i hi t eZ
    have hd:=Iw hl i t
    have e3:zA ((p.getD i []).getD t 0+dS l i t)=cell p i t+dS l i t:=yA (by show _≤cell p i t+dS l i t;omega) (by show cell p i t+dS l i t<_;omega)
    simp only[bd,ao,qZ,hm.l3,hm.l4,hm.r4 i hi,hb.pl,hb.pr i hi,hb.bl,hb.br i hi,ai hi,ai eZ,aq,aN,e1,e2,e3,vFw k bal cr res (zT (gR i) l) (by omega) (by omega) hR.1,an,yM2,Bool.true_and]
    show _=bif (decide (cl=3)&&decide (n0<wB res (zT (gR i) l)))||vt (cell p i t+dS l i t) (cell b i t) then _ else _
    cases decide (cl=3)<;>cases decide (n0<wB res (zT (gR i) l))<;>rfl) (n:=k) (by omega)
 unfold IB PI
 rw[h1,←h2]
 cases x<;>rfl
theorem PJ {α:Type}{g:α→Int}:∀{l:List α},(∀p∈l,0≤g p)→(0<zT g l↔∃p∈l,0<g p)
 |[],_=>by simp[zT]
 |q::l,h=>by
  have ih:=PJ (g:=g) (l:=l) fun p hp=>h p (List.mem_cons_of_mem _ hp)
  have h0:=sX (g:=g) (l:=l) fun p hp=>h p (List.mem_cons_of_mem _ hp)
  have hq:=h q (List.mem_cons_self ..)
  unfold zT
  constructor
  ·intro hs
   by_cases c:0<g q
   ·exact⟨q,List.mem_cons_self ..,c⟩
   ·obtain⟨p,hp,hg⟩:=ih.1 (by omega)
    exact⟨p,List.mem_cons_of_mem _ hp,hg⟩
  ·rintro⟨p,hp,hg⟩
   rcases List.mem_cons.1 hp with rfl|hp
   ·omega
   ·have:=ih.2 ⟨p,hp,hg⟩;omega
theorem IC {N:Nat}{p:Nat→Bool}:qK p N 0=false↔∃j,j<N∧p j=false:=by
 constructor
 ·intro h
  apply Classical.byContradiction
  intro hn
  have:qK p N 0=true:=gY.2 fun j hj=>by
   cases hp:p j with
   |true=>rfl
   |false=>exact absurd ⟨j,hj,hp⟩ hn
  rw[this] at h;cases h
 ·rintro⟨j,hj,hp⟩
  cases h:qK p N 0 with
  |false=>rfl
  |true=>rw[gY.1 h j hj] at hp;cases hp
theorem yZz {a:List qM}{b:List (List Int)}{p:List (List Int)}{l:List zC}(hl:wF a.length l){i:Nat}(hi:i<a.length)(short:Bool):
  (!qK (fun x=> !vu b p l i short (l.getD x pd)) l.length 0)=(!qK (EK b p l i) a.length 0||(decide (zT (gN i) l>0)&&short)):=by
 have hN:=PJ (g:=gN i) (l:=l) fun p hp=>(Ij (hl.1 p hp) i).1
 have hS:=fun j=>PJ (g:=gS i j) (l:=l) fun p hp=>(Ie (hl.1 p hp) i j).1
 rw[Bool.eq_iff_iff]
 simp only[Bool.not_eq_true',Bool.or_eq_true,bU,bN]
 rw[IC,IC]
 constructor
 ·rintro⟨x,hx,hb⟩
  have cc:=hl.1 _ (wY (d:=pd) hx)
  have dC:=wY (d:=pd) hx
  generalize l.getD x pd=q at hb cc dC
  simp only[vu,Bool.not_eq_false',bU,Bool.or_eq_true,bN] at hb
  obtain⟨hf,hb⟩:=hb
  rcases hb with⟨hc,hs⟩|ho
  ·refine .inr ⟨hN.2 ⟨q,dC,?_⟩,hs⟩
   unfold gN
   rw[if_pos ⟨hf,hc⟩]
   have:=cc.a1;omega
  ·have h1:=cc.t0;have h2:=cc.t1
   refine .inl ⟨q.2.2.1.toNat,by omega,?_⟩
   unfold EK
   have vv:zT (gS i q.2.2.1.toNat) l>0:=(hS _).2 ⟨q,dC,by
    unfold gS
    rw[if_pos ⟨hf,by omega⟩]
    have:=cc.a1;omega⟩
   rw[ai vv]
   unfold vt at ho
   rw[Bool.true_and,ho]
   rfl
 ·rintro(⟨j,hj,hb⟩|⟨hp,hs⟩)
  ·simp only[EK,Bool.not_eq_false',bU,bN] at hb
   obtain⟨vv,ho⟩:=hb
   obtain⟨q,hq,hg⟩:=(hS j).1 vv
   obtain⟨x,hx,rfl⟩:=List.getElem_of_mem hq
   refine⟨x,hx,?_⟩
   have e:l.getD x pd=l[x]:=by simp[List.getD,hx]
   rw[e]
   unfold gS at hg
   by_cases c:l[x].2.1=(i:Int)∧l[x].2.2.1=(j:Int)
   ·unfold vu vt
    rw[ai c.1,c.2,aN]
    simp[ho]
   ·rw[if_neg c] at hg;omega
  ·obtain⟨q,hq,hg⟩:=hN.1 hp
   obtain⟨x,hx,rfl⟩:=List.getElem_of_mem hq
   refine⟨x,hx,?_⟩
   have e:l.getD x pd=l[x]:=by simp[List.getD,hx]
   rw[e]
   unfold gN at hg
   by_cases c:l[x].2.1=(i:Int)∧l[x].2.2.2.2.1=3
   ·unfold vu
    rw[ai c.1,ai c.2,hs]
    simp
   ·rw[if_neg c] at hg;omega
theorem vHc {k:Nat}{a:List qM}{b:List (List Int)}{m:List Int}{p:List (List Int)}{l:List zC}(hk:100<k)(hb:wU a b m p)(hl:wF a.length l){r2 r3:List Int}{m4:List (List Int)}(hm:Iy a.length l r2 r3 m4){i:Nat}(hi:i<a.length)(hs:decide (zT (gN i) l+zT (gR i) l=0)=false):
  ID k r2 r3 m4 a b m p i l=some (hY a b m p l i):=by
 have h6:=hb.n6
 have lP:=hl.2
 have hB:=Pt hl i
 have hx:=hb.acct i hi
 simp only[eY,bU,bN] at hx
 have qy:-4611686018427387904<(a.getD i ad).1∧(a.getD i ad).1<4611686018427387904∧0≤(a.getD i ad).2.1∧(a.getD i ad).2.1≤2305843009213693952∧0≤(a.getD i ad).2.2∧(a.getD i ad).2.2≤2305843009213693952:=⟨hx.1,hx.2.1,hx.2.2.1,hx.2.2.2.1,hx.2.2.2.2.1,hx.2.2.2.2.2⟩
 have ED:=Ee (Z7 hb hi) a.length
 have ye:(a.length:Int)*72057594037927936≤6*72057594037927936:=by omega
 have e1:r2.getD i 0=zT (gB i) l:=hm.more i hi
 unfold ID
 simp only[qZ,ai hi,aq,aN,hm.l2,hm.l4,e1,hm.r4 i hi]
 rw[vGd (by omega) (by omega) hi hb.pl (hb.pr i hi) (Z7 hb hi)]
 show(bif decide (zA (zA ((a.getD i ad).1+(a.getD i ad).2.1)+zT (gB i) l)<0) then _ else _)=_
 rw[yA (x:=(a.getD i ad).1+(a.getD i ad).2.1) (by omega) (by omega),yA (x:=(a.getD i ad).1+(a.getD i ad).2.1+zT (gB i) l) (by omega) (by omega)]
 unfold hY
 rw[hs]
 cases hn:decide ((a.getD i ad).1+(a.getD i ad).2.1+zT (gB i) l<0) with
 |true=>simp
 |false=>
  obtain ⟨s, q1, q2⟩ := vY (L := fun c j (s : Int) => vw k c l s (m4.getD i []) a.length j r2 r3 m4 a b m p i (a.getD i ad).1 (a.getD i ad).2.1 (a.getD i ad).2.2 ((a.getD i ad).1 + (a.getD i ad).2.1 + zT (gB i) l)) (N := a.length) (fun s => (l, s, r2, r3, m4, a, b, m, p, (i : Int), (a.getD i ad).1, (a.getD i ad).2.1, (a.getD i ad).2.2, (a.getD i ad).1 + (a.getD i ad).2.1 + zT (gB i) l)) (fun j s => s = qO (cell p i) a.length + qO (dS l i) j) (fun c s hs=>by
    show AG k _ l s (m4.getD i []) a.length a.length r2 r3 m4 a b m p i (a.getD i ad).1 (a.getD i ad).2.1 (a.getD i ad).2.2 ((a.getD i ad).1+(a.getD i ad).2.1+zT (gB i) l)=_
    unfold AG
    simp only [qC, aj (Nat.lt_irrefl _), ao]) (fun c j s hj hs=>by
    refine⟨qO (cell p i) a.length+qO (dS l i) (j+1),?_,rfl⟩
    show AG k _ l s (m4.getD i []) a.length j r2 r3 m4 a b m p i (a.getD i ad).1 (a.getD i ad).2.1 (a.getD i ad).2.2 ((a.getD i ad).1+(a.getD i ad).2.1+zT (gB i) l)=_
    have e2:(m4.getD i []).getD j 0=dS l i j:=hm.sent i hi j hj
    have De:=Ee (fun j=>Iw hl i j) j
    have OQ:=Iw hl i j
    have hj1:(j:Int)*70368744177664≤6*70368744177664:=by omega
    unfold AG
    simp only[qZ,qY hj (show a.length<9223372036854775808 by omega),qC,aN,hm.r4 i hi,ai hj,aq,e2]
    rw[hs,yA (x:=qO (cell p i) a.length+qO (dS l i) j+dS l i j) (by omega) (by omega),Int.add_assoc]
    rfl) (n:=k) (s:=qO (cell p i) a.length) (by omega) (by show _=_+0;omega)
  have q1':vw k k l (qO (cell p i) a.length) (m4.getD i []) a.length 0 r2 r3 m4 a b m p i (a.getD i ad).1 (a.getD i ad).2.1 (a.getD i ad).2.2 ((a.getD i ad).1+(a.getD i ad).2.1+zT (gB i) l)=_:=q1
  simp only[ao,an]
  rw[show vw k k l (qO (cell p i) a.length) (m4.getD i []) a.length 0 r2 r3 m4 a b m p i (a.getD i (0,(0,0))).1 (a.getD i (0,(0,0))).2.1 (a.getD i (0,(0,0))).2.2 ((a.getD i ad).1+(a.getD i ad).2.1+zT (gB i) l)=_ from q1']
  simp only[an,qZ,hb.ml,ai hi,aq,aN,yM2]
  rw[vDr hk hb hl hm hi _ _ _ _ ⟨qy.2.2.2.2.1,qy.2.2.2.2.2⟩,yZz hl hi,q2,vDb hl.1 i hi]
  have en:qO (cell p i) a.length+-zT (gB i) l=qO (cell p i) a.length-zT (gB i) l:=by omega
  rw[en]
  unfold vt
  simp only[an,eC,Bool.true_and,Bool.false_or]
  cases qK (EK b p l i) a.length 0<;>cases decide (zT (gN i) l>0)<;>cases decide ((a.getD i ad).1+(a.getD i ad).2.1+zT (gB i) l<wB (a.getD i ad).2.2 (zT (gR i) l))<;>cases decide (m.getD i 0= -1)<;>cases decide (qO (cell p i) a.length-zT (gB i) l>m.getD i 0)<;>rfl
theorem vLq (f:Nat→Bool)(i:Nat):((List.range (i+1)).filter f).map (fun(x:Nat)=>(x:Int))=(((List.range i).filter f).map fun(x:Nat)=>(x:Int))++(bif f i then[(i:Int)] else[]):=by
 rw[List.range_succ,List.filter_append,List.map_append]
 congr 1
 cases h:f i<;>simp[h]
theorem PK {k:Nat}{a:List qM}{b:List (List Int)}{m:List Int}{p:List (List Int)}{l:List zC}(hk:100<k)(hb:wU a b m p)(hl:wF a.length l):vx k a b m p l=some (vr a b m p l):=by
 have h6:=hb.n6
 have lP:=hl.2
 obtain⟨r2,r3,m4,g1,hm⟩:=vI1 hk h6 hl
 obtain ⟨r, h1, h2⟩ := vY (L := fun c i (r : List Int) => AH k c l a.length i a b m p r2 r3 m4 r) (N := a.length) (fun r => r) (fun i r => r = ((List.range i).filter fun i => hY a b m p l i).map fun (x : Nat) => (x : Int)) (fun c r hr=>by
   show AI k _ l a.length a.length a b m p r2 r3 m4 r=_
   unfold AI
   simp only [qC, aj (Nat.lt_irrefl _), ao]) (fun c i r hi hr=>by
   have hle:r.length≤i:=by
    rw[hr,List.length_map]
    have:=List.length_filter_le (fun i=>hY a b m p l i) (List.range i)
    rw[List.length_range] at this
    exact this
   have aX:zX (r.length+1) 8=true:=yF (by omega) (by omega)
   refine⟨_,?_,rfl⟩
   show AI k _ l a.length i a b m p r2 r3 m4 r=_
   unfold AI
   simp only[qY hi (show a.length<9223372036854775808 by omega),qC,ai hi,aq,vFx (show l.length<k by omega) (by omega),an,aX]
   rw[yAt hl.1,vLq,←hr]
   cases hz:decide (zT (gN i) l+zT (gR i) l=0) with
   |true=>
    have:hY a b m p l i=false:=by unfold hY;rw[hz];rfl
    rw[this]
    simp
   |false=>
    rw[vHc hk hb hl hm hi hz]
    simp only[an,eC,aq]
    cases hY a b m p l i<;>simp) (n:=k) (s:=[]) (by omega) rfl
 unfold vx
 rw[g1]
 simp only[an]
 have eH:AH k k l a.length 0 a b m p r2 r3 m4 []=some r:=h1
 rw[eH,h2]
 rfl
theorem yVp {a:List qM}{b:List (List Int)}{m:List Int}{p:List (List Int)}{l:List zC}:decide (((vr a b m p l).length:Int)=0)=qK (fun i=> !hY a b m p l i) a.length 0:=by
 unfold vr
 rw[List.length_map]
 cases h:qK (fun i=> !hY a b m p l i) a.length 0 with
 |true=>
  rw[gY] at h
  apply ai
  have:(List.range a.length).filter (fun i=>hY a b m p l i)=[]:=by
   rw[List.filter_eq_nil_iff]
   intro i hi
   have:=h i (by simpa using hi)
   simpa using this
  rw[this];rfl
 |false=>
  apply aj
  intro h0
  obtain⟨j,hj,hs⟩:=IC.1 h
  have hm:j∈(List.range a.length).filter (fun i=>hY a b m p l i):=by
   rw[List.mem_filter]
   exact⟨by simpa using hj,by simpa using hs⟩
  have:=List.length_pos_of_mem hm
  omega
theorem vCu {k:Nat}{l:List zC}(hk:l.length<k)(hl:l.length<9223372036854775808)(a:List qM)(b:List (List Int))(m:List Int)(p:List (List Int)):IE k l a b m p=some (!mv a.length l):=by
 obtain ⟨x, h1, h2⟩ := sW (L := fun c i => EU k c l l.length i a b m p) (N := l.length) (fun i => !nq a.length (l.getD i pd)) (fun c=>by
  show AJ k _ l l.length l.length a b m p=_
  unfold AJ
  simp only [qC, aj (Nat.lt_irrefl _), ao]) (fun c i hi=>by
  show AJ k _ l l.length i a b m p=_
  unfold AJ PM
  simp only[qZ,qY hi hl,qC,aN,ai hi,aq,Pn,an]) hk
 unfold IE PN
 rw[h1]
 simp only[Bool.not_not] at h2
 unfold mv
 rw[←h2]
 cases x<;>rfl
theorem vF4 {k:Nat}{a:List qM}{b:List (List Int)}{m:List Int}{p:List (List Int)}{l:List zC}(hk:100<k)(hb:wU a b m p)(hl:l.length≤80):vy k a b m p l=some (zz a b m p l):=by
 unfold vy zz
 have e:decide ((l.length:Int)≤64)=decide (l.length≤64):=by
  by_cases h:l.length≤64
  ·rw[ai h,ai (by omega)]
  ·rw[aj h,aj (by omega)]
 rw[e,vCu (by omega) (by omega)]
 cases dB:decide (l.length≤64) with
 |false=>simp
 |true=>
  cases hm:mv a.length l with
  |false=>rfl
  |true=>
   have hr:wF a.length l:=⟨zn.1 hm,vk dB⟩
   simp only[aq,an,bd,eC,PK hk hb hr,yVp,Bool.and_self,Bool.true_and]
def qT (l:List zC):Prop:=List.Pairwise (fun p q=>p.1≠q.1) l
theorem qT.filter {l:List zC}(h:qT l)(f:zC→Bool):qT (l.filter f):=List.Pairwise.filter f h
theorem EV {α:Type}(f:α→Bool)(l:List α)(i:Nat)(d:α)(h:i<l.length):(l.take (i+1)).filter f=(l.take i).filter f++(bif f (l.getD i d) then[l.getD i d] else[]):=by
 rw[←jK l i d h,List.filter_append]
 congr 1
theorem yQf {α X:Type}(d:α){l:List α}{L:Nat→Int→List α→Option X}(f:α→Bool)(e:List α→X)(bK:∀n s,L (n+1) (l.length:Int) s=some (e s))
  (aF:∀n i s,i<l.length→s.length≤i→L (n+1) (i:Int) s=L n ((i+1:Nat):Int) (bif f (l.getD i d) then s++[l.getD i d] else s)) {n:Nat} (hn:l.length<n):
  L n 0 []=some (e (l.filter f)):=by
 obtain ⟨s', h1, h2⟩ := vY (L := L) (N := l.length) e (fun i s => s = (l.take i).filter f) (fun n s _ => bK n s) (fun n i s hi hs=>by
  refine⟨_,aF n i s hi ?_,?_⟩
  ·subst hs
   have:=List.length_filter_le f (l.take i)
   rw[List.length_take] at this
   omega
  ·subst hs
   rw[EV f l i d hi]
   cases f (l.getD i d)<;>simp) (s:=[]) hn (by simp)
 rw[h1,h2,List.take_length]
def vB (l:List zC):Prop:=l.length≤1000
theorem tf {n:Nat}(h:n≤1000):zX (n+1) 56=true:=yF (by omega) (by omega)
def nu (t:Int)(p:zC):Bool:=bif decide (t≥p.2.2.2.2.2.1) then decide (t≤p.2.2.2.2.2.2) else false
theorem PO {k:Nat}{l:List zC}(hk:l.length<k)(hl:vB l)(t:Int):AK k l t=some (l.filter (nu t)):=by
 unfold AK PQ
 have := yQf pd (L := fun n i s => EW k n l l.length i t s) (nu t) id (fun n s=>by
  show AL k _ l l.length l.length t s=_
  unfold AL
  simp only [qC, aj (Nat.lt_irrefl _), ao]; rfl) (fun n i s hi hs=>by
  show AL k _ l l.length i t s=_
  unfold AL PR PS
  unfold vB at hl
  simp only[qZ,qY hi (show l.length<9223372036854775808 by omega),qC,aN,ai hi,aq,tf (show s.length≤1000 by omega)]
  unfold nu
  cases h1:decide (t≥(l.getD i pd).2.2.2.2.2.1) with
  |false=>rfl
  |true=>
   cases h2:decide (t≤(l.getD i pd).2.2.2.2.2.2)<;>rfl) hk
 rw[this]
 rfl
def jB (f:Int)(p:zC):Bool:=decide (p.2.1=f)
def PT (r:List zC)(p:zC):Bool:=qK (fun x=>decide (((r.filter (jB p.2.1)).getD x pd).2.2.2.2.1=3)) (r.filter (jB p.2.1)).length 0
def PU (r:List zC)(p:zC):Bool:=decide ((r.filter (jB p.2.1)).getD 0 pd=p)
def tg (r:List zC)(p:zC):Bool:=PU r p||PT r p
def wS (l:List zC)(t:Int):List zC:=(l.filter (nu t)).filter (tg (l.filter (nu t)))
def vz (f:Int)(q:zC):Bool:=decide (q.2.1=f)&& !decide (q.2.2.2.2.1=3)
theorem yT1 {k:Nat}{l:List zC}(hk:l.length<k)(hl:l.length<9223372036854775808)(i f t a c s e:Int):
  IF k l i f t a c s e=some (!qK (fun x=> !vz f (l.getD x pd)) l.length 0):=by
 obtain ⟨x, h1, h2⟩ := sW (L := fun n i' => AM k n l l.length i' i f t a c s e) (N := l.length) (fun x => vz f (l.getD x pd)) (fun n=>by
  show AN k _ l l.length l.length i f t a c s e=_
  unfold AN
  simp only [qC, aj (Nat.lt_irrefl _), ao]) (fun n j hj=>by
  show AN k _ l l.length j i f t a c s e=_
  unfold AN PV
  simp only[qZ,qY hj hl,qC,aN,ai hj,aq]
  unfold vz
  cases h1:decide ((l.getD j pd).2.1=f) with
  |false=>rfl
  |true=>cases h2:decide ((l.getD j pd).2.2.2.2.1=3)<;>rfl) hk
 unfold IF PW
 have eH:AM k k l l.length 0 i f t a c s e=some x:=h1
 rw[eH]
 rw[←h2]
 cases x<;>rfl
theorem vJi (r:List zC)(p:zC):PT r p=true↔∀q∈r,q.2.1=p.2.1→q.2.2.2.2.1=3:=by
 unfold PT
 rw[gY]
 constructor
 ·intro h q hq he
  have hm:q∈r.filter (jB p.2.1):=List.mem_filter.2 ⟨hq,by simp[jB,he]⟩
  obtain⟨i,hi,e⟩:=List.getElem_of_mem hm
  have:=h i hi
  rw[List.getD_eq_getElem?_getD,List.getElem?_eq_getElem hi,e] at this
  simpa using this
 ·intro h j hj
  have hm:=wY (d:=pd) hj
  rw[List.mem_filter] at hm
  have:=h _ hm.1 (by simpa[jB] using hm.2)
  simpa using this
theorem yUl (r:List zC)(f:Int):qK (fun x=> !vz f (r.getD x pd)) r.length 0=true↔∀q∈r,q.2.1=f→q.2.2.2.2.1=3:=by
 rw[gY]
 constructor
 ·intro h q hq he
  obtain⟨i,hi,e⟩:=List.getElem_of_mem hq
  have:=h i hi
  rw[List.getD_eq_getElem?_getD,List.getElem?_eq_getElem hi,e] at this
  simpa[vz,he] using this
 ·intro h j hj
  have:=h _ (wY (d:=pd) hj)
  simp only[vz,Bool.not_eq_true',Bool.and_eq_false_iff,Bool.not_eq_false',bN,decide_eq_false_iff_not]
  by_cases c:(r.getD j pd).2.1=f
  ·exact .inr (this c)
  ·exact .inl c
theorem qT.split {r:List zC}(h:qT r){i:Nat}(hi:i<r.length):∀q∈r.take i,q.1≠(r.getD i pd).1:=by
 intro q hq
 have e:r.take (i+1)=r.take i++[r.getD i pd]:=(jK r i pd hi).symm
 have hs:qT (r.take (i+1)):=List.Pairwise.sublist (List.take_sublist _ _) h
 rw[e] at hs
 exact(List.pairwise_append.1 hs).2.2 q hq _ (List.mem_singleton.2 rfl)
theorem EX {α:Type}(r:List α)(i:Nat)(d:α)(hi:i<r.length):r=r.take i++r.getD i d::r.drop (i+1):=by
 conv=>lhs;rw[←List.take_append_drop i r]
 congr 1
 rw[List.drop_eq_getElem_cons hi]
 congr 1
 rw[List.getD_eq_getElem?_getD,List.getElem?_eq_getElem hi];rfl
theorem yZ0 {r:List zC}(h:qT r){i:Nat}(hi:i<r.length):PU r (r.getD i pd)= !(r.take i).any (jB (r.getD i pd).2.1):=by
 unfold PU
 have e:∀f,jB f (r.getD i pd)=true→r.filter (jB f)=(r.take i).filter (jB f)++r.getD i pd::(r.drop (i+1)).filter (jB f):=by
  intro f hf
  have:=congrArg (List.filter (jB f)) (EX r i pd hi)
  rwa [List.filter_append,List.filter_cons_of_pos hf] at this
 have e:=e (r.getD i pd).2.1 (by simp[jB])
 rw[e]
 cases ha:(r.take i).any (jB (r.getD i pd).2.1) with
 |false=>
  have:(r.take i).filter (jB (r.getD i pd).2.1)=[]:=by
   rw[List.filter_eq_nil_iff]
   intro q hq hf
   rw[List.any_eq_false] at ha
   exact ha q hq hf
  rw[this]
  simp
 |true=>
  cases hf:(r.take i).filter (jB (r.getD i pd).2.1) with
  |nil=>
   rw[List.filter_eq_nil_iff] at hf
   rw[List.any_eq_true] at ha
   obtain⟨q,h1,h2⟩:=ha
   exact absurd h2 (hf q h1)
  |cons q l=>
   have hq:q∈r.take i:=(List.mem_filter.1 (hf▸List.mem_cons_self ..:q∈(r.take i).filter _)).1
   have:=h.split hi q hq
   have e2:(q::l++r.getD i pd::(r.drop (i+1)).filter (jB (r.getD i pd).2.1)).getD 0 pd=q:=rfl
   rw[e2]
   simp only[bd,decide_eq_false_iff_not]
   intro c
   exact this (by rw[c])
theorem vGx {r:List zC}(h:qT r){i:Nat}(hi:i<r.length):
  tg r (r.getD i pd)=(!(r.take i).any (jB (r.getD i pd).2.1)||(decide ((r.getD i pd).2.2.2.2.1=3)&&qK (fun x=> !vz (r.getD i pd).2.1 (r.getD x pd)) r.length 0)):=by
 unfold tg
 rw[yZ0 h hi]
 congr 1
 rw[Bool.eq_iff_iff,vJi,bU,yUl,bN]
 exact⟨fun g=>⟨g _ (wY hi) rfl,g⟩,fun g=>g.2⟩
theorem lookup_cons (f g:Int)(l:List (Int×Bool)):(List.lookup f ((g,true)::l)).getD false=(decide (f=g)||(List.lookup f l).getD false):=by
 rw[List.lookup_cons]
 by_cases c:f=g
 ·subst c;simp
 ·have:(f==g)=false:=by simpa using c
  rw[this]
  simp[c]
theorem yEs {k:Nat}{l:List zC}(hk:l.length<k)(hl:vB l)(hd:qT l)(t:Int):EY k l t=some (wS l t):=by
 unfold EY
 rw[PO hk hl]
 simp only[an]
 unfold wS
 have fj:(l.filter (nu t)).length≤l.length:=List.length_filter_le _ _
 have gj:=hd.filter (nu t)
 generalize l.filter (nu t)=r at fj gj
 unfold vB at hl
 unfold PX
 obtain ⟨s', h1, h2, h3⟩ := vY (L := fun n i (s : List (Int × Bool) × List zC) => AO k n r r.length i s.1 r s.2) (N := r.length) (fun s => (s.1, r, s.2)) (fun i s => (∀ f, (List.lookup f s.1).getD false = (r.take i).any (jB f)) ∧ s.2 = (r.take i).filter (tg r)) (fun n s _=>by
  show AP k _ r r.length r.length s.1 r s.2=_
  unfold AP
  simp only [qC, aj (Nat.lt_irrefl _), ao]) (fun n i s hi hs=>by
  refine⟨(((r.getD i pd).2.1,true)::s.1,bif tg r (r.getD i pd) then s.2++[r.getD i pd] else s.2),?_,?_,?_⟩
  ·show AP k _ r r.length i s.1 r s.2=_
   unfold AP PY
   have hlen:s.2.length≤i:=by
    rw[hs.2]
    have:=List.length_filter_le (tg r) (r.take i)
    rw[List.length_take] at this
    omega
   have hc:=yT1 (k:=k) (l:=r) (by omega) (by omega) (r.getD i pd).1 (r.getD i pd).2.1 (r.getD i pd).2.2.1 (r.getD i pd).2.2.2.1 (r.getD i pd).2.2.2.2.1 (r.getD i pd).2.2.2.2.2.1 (r.getD i pd).2.2.2.2.2.2
   have qi:=hs.1 (r.getD i pd).2.1
   have hp:=vGx gj hi
   simp only[pd] at hc qi hp⊢
   simp only[qZ,qY hi (show r.length<9223372036854775808 by omega),qC,aN,ai hi,aq,tf (show s.2.length≤1000 by omega)]
   rw[hc,qi,hp]
   generalize (r.take i).any _=x
   generalize qK _ _ 0=y
   generalize decide ((r.getD i (0,(0,(0,(0,(0,(0,0))))))).2.2.2.2.1=3)=z
   cases x<;>cases y<;>cases z<;>rfl
  ·intro f
   rw[lookup_cons,hs.1 f,←jK r i pd hi,List.any_append,Bool.or_comm]
   congr 1
   simp only[List.any_cons,List.any_nil,Bool.or_false,jB]
   rw[Bool.eq_iff_iff]
   simp only[bN]
   exact eq_comm
  ·show(bif tg r (r.getD i pd) then s.2++[r.getD i pd] else s.2)=_
   rw[hs.2,EV _ _ _ pd hi]
   cases tg r (r.getD i pd)<;>simp) (s:=([],[])) (show r.length<k by omega) ⟨fun f=>by simp,by simp⟩
 have eH:AO k k r r.length 0 [] r []=some (s'.1,r,s'.2):=h1
 rw[eH,h3,List.take_length]
 rfl
def th (p:Nat→Bool):Nat→Nat→Option Nat
 |0,_=>none
 |c+1,i=>bif p i then some i else th p c (i+1)
def yH2:Option Nat→Unit⊕Int
 |some x=>.inr (x:Int)
 |none=>.inl ()
theorem yN3 {L:Nat→Int→Option (Unit⊕Int)}{N:Nat}(bad:Nat→Bool)(bK:∀n,L (n+1) (N:Int)=some (.inl ()))
  (aF:∀n i,i<N→L (n+1) (i:Int)=bif bad i then some (.inr (i:Int)) else L n ((i+1:Nat):Int)):
  ∀c i n,i+c=N→c<n→L n (i:Int)=some (yH2 (th bad c i))
 |0,i,n,h,hn=>by
  obtain⟨n,rfl⟩:∃m,n=m+1:=⟨n-1,by omega⟩
  have:i=N:=by omega
  subst this
  exact bK n
 |c+1,i,n,h,hn=>by
  obtain⟨n,rfl⟩:∃m,n=m+1:=⟨n-1,by omega⟩
  rw[aF n i (by omega)]
  unfold th
  cases hb:bad i with
  |true=>rfl
  |false=>
   simp only[ao]
   exact yN3 bad bK aF c (i+1) n (by omega) (by omega)
theorem yB0 {p:Nat→Bool}:∀{c i x:Nat},th p c i=some x→i≤x∧x<i+c∧p x=true∧∀j,i≤j→j<x→p j=false
 |0,_,_,h=>by cases h
 |c+1,i,x,h=>by
  unfold th at h
  cases hp:p i with
  |true=>
   rw[hp] at h
   simp only[aq,Option.some.injEq] at h
   subst h
   exact⟨Nat.le_refl _,by omega,hp,fun j h1 h2=>absurd h1 (by omega)⟩
  |false=>
   rw[hp] at h
   simp only[ao] at h
   obtain⟨h1,h2,h3,h4⟩:=yB0 h
   refine⟨by omega,by omega,h3,fun j j1 j2=>?_⟩
   by_cases e:j=i
   ·subst e;exact hp
   ·exact h4 j (by omega) j2
theorem yPp {p:Nat→Bool}:∀{c i:Nat},th p c i=none→∀j,i≤j→j<i+c→p j=false
 |0,_,_=>fun j h1 h2=>absurd h1 (by omega)
 |c+1,i,h=>by
  unfold th at h
  cases hp:p i with
  |true=>
   rw[hp] at h
   cases h
  |false=>
   rw[hp] at h
   simp only[ao] at h
   intro j j1 j2
   by_cases e:j=i
   ·subst e;exact hp
   ·exact yPp h j (by omega) (by omega)
def wL (l:List zC)(id:Int):Option Nat:=th (fun x=>decide ((l.getD x pd).1=id)) l.length 0
def v7 (l:List zC)(id:Int):Int:=match wL l id with|some x=>(x:Int)|none=>-1
theorem lR {l:List zC}{id:Int}{x:Nat}(h:wL l id=some x):x<l.length∧(l.getD x pd).1=id:=by
 obtain⟨_,h2,h3,_⟩:=yB0 h
 exact⟨by omega,by simpa using h3⟩
theorem vDm {l:List zC}{id:Int}(h:wL l id=none):∀p∈l,p.1≠id:=by
 intro p hp e
 obtain⟨i,hi,e'⟩:=List.getElem_of_mem hp
 have:=yPp h i (by omega) (by omega)
 rw[List.getD_eq_getElem?_getD,List.getElem?_eq_getElem hi,e'] at this
 simp[e] at this
theorem PZ {l:List zC}{p:zC}(h:p∈l):∃x,wL l p.1=some x:=by
 cases e:wL l p.1 with
 |some x=>exact⟨x,rfl⟩
 |none=>exact absurd rfl (vDm e p h)
theorem EZ {k:Nat}{l:List zC}(hk:l.length<k)(hl:l.length<9223372036854775808)(id:Int):my k l id=some (v7 l id):=by
 have := yN3 (L := fun n i => AQ k n l l.length i id) (N := l.length) (fun x => decide ((l.getD x pd).1 = id)) (fun n=>by
  show AR k _ l l.length l.length id=_
  unfold AR
  simp only [qC, aj (Nat.lt_irrefl _), ao]) (fun n j hj=>by
  show AR k _ l l.length j id=_
  unfold AR P0
  simp only[qZ,qY hj hl,qC,aN,ai hj,aq]
  rfl) l.length 0 k (by omega) hk
 have h1:AQ k k l l.length 0 id=some (yH2 (wL l id)):=this
 unfold my P1 v7
 rw[h1]
 cases wL l id<;>rfl
def yU (l:List zC)(x:Nat):List zC:=l.take x++l.drop (x+1)
theorem nv {l:List zC}{x:Nat}(h:x<l.length):(yU l x).length=l.length-1:=by
 unfold yU
 rw[List.length_append,List.length_take,List.length_drop]
 omega
theorem qz (l:List zC)(x:Nat):List.Sublist (yU l x) l:=by
 unfold yU
 conv=>rhs;rw[←List.take_append_drop x l]
 exact List.Sublist.append (List.Sublist.refl _) (List.drop_sublist_drop_left l (by omega))
theorem qT.cut {l:List zC}(h:qT l)(x:Nat):qT (yU l x):=List.Pairwise.sublist (qz l x) h
theorem yQm (k:Nat){l:List zC}{x:Nat}(hx:x<l.length)(hl:vB l):E0 k l x ((x+1:Nat):Int)=some (yU l x):=by
 unfold E0
 unfold vB at hl
 have c1:(decide ((0:Int)≤(x:Int)))=true:=by simp
 have c2:decide ((x:Int)≤((x+1:Nat):Int))=true:=ai (by omega)
 have c3:decide (((x+1:Nat):Int)≤(l.length:Int))=true:=ai (by omega)
 have c4:decide ((l.length:Int)≤(l.length:Int))=true:=by simp
 have c5:decide ((x:Int)=((x+1:Nat):Int))=false:=aj (by omega)
 have c6:decide ((x:Int)≤(l.length:Int))=true:=ai (by omega)
 have c7:decide ((0:Int)≤((x+1:Nat):Int))=true:=ai (by omega)
 have c8:Nat.ble (x-0) (0+(x+1))=true:=Nat.ble_eq_true_of_le (by omega)
 simp only[aN,c1,c2,c3,c4,c5,c6,c7,c8,Bool.and_true,aq,ao]
 have e0:x-0+(l.length-(x+1))=l.length-1:=by omega
 have e1:List.take (x-0) l++yB l (0+(x+1)) (l.length-(x+1))=yU l x:=by
  unfold yB yU
  rw[Nat.sub_zero,Nat.zero_add]
  congr 1
  rw[List.take_of_length_le]
  rw[List.length_drop]
  exact Nat.le_refl _
 have e2:(yB (yU l x++List.drop (l.length-1) l) 0 (l.length-1))=yU l x:=by
  unfold yB
  rw[List.drop_zero,List.take_append_of_le_length (by rw[nv hx];exact Nat.le_refl _),List.take_of_length_le (by rw[nv hx];exact Nat.le_refl _)]
 have e3:(yU l x++List.drop (l.length-1) l).length=l.length:=by
  rw[List.length_append,List.length_drop,nv hx];omega
 have c9:decide ((0:Int)≤((yU l x).length:Int))=true:=by simp
 have c10:decide (((yU l x).length:Int)≤(l.length:Int))=true:=ai (by rw[nv hx];omega)
 have c11:decide ((l.length:Int)≤((l.length-0:Nat):Int))=true:=by simp
 have e4:List.take (0+(yU l x).length) (yU l x++List.drop (l.length-1) l)=yU l x:=by
  rw[Nat.zero_add,List.take_append_of_le_length (Nat.le_refl _),List.take_of_length_le (Nat.le_refl _)]
 simp only[e0,e1,e2,e3,c9,c10,c11,e4,Bool.and_true,aq,Option.some.injEq]
 rw[List.append_assoc,List.take_append_of_le_length (by rw[nv hx];exact Nat.le_refl _),List.take_of_length_le (by rw[nv hx];exact Nat.le_refl _)]
def nx (l:List zC)(id:Int):List zC×Int×Int×Int×Int×Int×Int×Int×Int:=match wL l id with
 |some x=>(yU l x,(l.getD x pd).1,(l.getD x pd).2.1,(l.getD x pd).2.2.1,(l.getD x pd).2.2.2.1,(l.getD x pd).2.2.2.2.1,(l.getD x pd).2.2.2.2.2.1,(l.getD x pd).2.2.2.2.2.2,0)
 |none=>(l,0,0,0,0,0,0,0,4)
theorem v8 {k:Nat}{l:List zC}(hk:l.length<k)(hl:vB l)(id:Int):ny k l id=some (nx l id):=by
 unfold vB at hl
 unfold ny
 rw[EZ hk (by omega)]
 unfold v7 nx
 cases hp:wL l id with
 |none=>rfl
 |some x=>
  have hx:=(lR hp).1
  have e1:decide ((x:Int)<0)=false:=aj (by omega)
  have e2:tj k l=some l:=by
   unfold tj
   rw[yF (by omega) (by omega)]
   rfl
  simp only[an,e1,ao,e2,qY hx (show l.length<9223372036854775808 by omega),yQm k hx hl,qZ,ai hx,aq,aN]
def fl (q p:zC):Bool:=decide (q.2.1<p.2.1)||(decide (q.2.1=p.2.1)&&decide (q.2.2.2.2.1≤p.2.2.2.2.1))
def mz (q p:zC):Bool:=decide (q.2.1<p.2.1)||(decide (q.2.1=p.2.1)&&decide (q.2.2.2.2.1<p.2.2.2.2.1))
theorem vHq (n:Nat)(x y:Int):IG (n+3) [x,y]=some (if x=0 then y else x):=by
 have key:∀n:Nat,AT (n+3) (n+3) 0 [x,y] 2 0=bif !decide (x=0) then some (.inr x) else bif !decide (y=0) then some (.inr y) else some (.inl 0):=fun n=>rfl
 unfold IG
 show(AT (n+3) (n+3) 0 [x,y] 2 0).bind _=_
 rw[key]
 by_cases h:x=0
 ·rw[ai h,if_pos h]
  by_cases h2:y=0
  ·rw[ai h2,h2];rfl
  ·rw[aj h2];rfl
 ·rw[aj h,if_neg h];rfl
theorem vIx (k:Nat)(a b:Int):E1 k a b=some (if a<b then-1 else if a>b then 1 else 0):=by
 unfold E1 IH
 have e:∀x:Int,decide (x=x)=true:=fun x=>ai rfl
 simp only[e,bd,an,ao]
 by_cases h:a<b
 ·rw[ai h,if_pos h];rfl
 ·rw[aj h,if_neg h]
  by_cases h2:a>b
  ·rw[ai h2,if_pos h2];rfl
  ·rw[aj h2,if_neg h2];rfl
theorem qT0 {k:Nat}(hk:3≤k)(q p:zC):∃x,AU k q.1 q.2.1 q.2.2.1 q.2.2.2.1 q.2.2.2.2.1 q.2.2.2.2.2.1 q.2.2.2.2.2.2 p.1 p.2.1 p.2.2.1 p.2.2.2.1 p.2.2.2.2.1 p.2.2.2.2.2.1 p.2.2.2.2.2.2=some x∧decide (x≤0)=fl q p∧decide (x<0)=mz q p:=by
 obtain⟨n,rfl⟩:∃n,k=n+3:=⟨k-3,by omega⟩
 unfold AU
 simp only[vIx,an,vHq]
 refine⟨_,rfl,?_,?_⟩
 ·unfold fl
  rcases Int.lt_trichotomy q.2.1 p.2.1 with h|h|h
  ·simp[h]
  ·rcases Int.lt_trichotomy q.2.2.2.2.1 p.2.2.2.2.1 with g|g|g
   ·simp[h,g,Int.le_of_lt g]
   ·simp[h,g]
   ·have g1:¬q.2.2.2.2.1<p.2.2.2.2.1:=by omega
    have g2:¬q.2.2.2.2.1≤p.2.2.2.2.1:=by omega
    simp[h,g1,g2,g]
  ·have h1:¬q.2.1<p.2.1:=by omega
   have h2:¬q.2.1=p.2.1:=by omega
   simp[h1,h2,h]
 ·unfold mz
  rcases Int.lt_trichotomy q.2.1 p.2.1 with h|h|h
  ·simp[h]
  ·rcases Int.lt_trichotomy q.2.2.2.2.1 p.2.2.2.2.1 with g|g|g
   ·simp[h,g]
   ·simp[h,g]
   ·have g1:¬q.2.2.2.2.1<p.2.2.2.2.1:=by omega
    simp[h,g1,g]
  ·have h1:¬q.2.1<p.2.1:=by omega
   have h2:¬q.2.1=p.2.1:=by omega
   simp[h1,h2,h]
def E2 (ok:Nat→Bool):Nat→Nat→Nat
 |0,i=>i
 |c+1,i=>bif ok i then E2 ok c (i+1) else i
theorem P2 {X:Type}{L:Nat→Int→Option X}{N:Nat}(ok:Nat→Bool)(e:Nat→X)(bK:∀n,L (n+1) (N:Int)=some (e N))
  (aF:∀n i,i<N→L (n+1) (i:Int)=bif ok i then L n ((i+1:Nat):Int) else some (e i)):∀c i n,i+c=N→c<n→L n (i:Int)=some (e (E2 ok c i))
 |0,i,n,h,hn=>by
  obtain⟨n,rfl⟩:∃m,n=m+1:=⟨n-1,by omega⟩
  have:i=N:=by omega
  subst this
  exact bK n
 |c+1,i,n,h,hn=>by
  obtain⟨n,rfl⟩:∃m,n=m+1:=⟨n-1,by omega⟩
  rw[aF n i (by omega)]
  unfold E2
  cases ok i with
  |false=>rfl
  |true=>exact P2 ok e bK aF c (i+1) n (by omega) (by omega)
theorem P3 {α:Type}(f:α→Bool)(l:List α)(d:α):∀c i,i+c=l.length→E2 (fun x=>f (l.getD x d)) c i=i+((l.drop i).takeWhile f).length
 |0,i,h=>by
  rw[List.drop_eq_nil_of_le (by omega)]
  rfl
 |c+1,i,h=>by
  rw[List.drop_eq_getElem_cons (show i<l.length by omega)]
  unfold E2
  have e:l.getD i d=l[i]:=by rw[List.getD_eq_getElem?_getD,List.getElem?_eq_getElem (by omega)];rfl
  rw[e]
  cases hf:f l[i] with
  |false=>rw[List.takeWhile_cons_of_neg (by simp[hf])];rfl
  |true=>
   rw[List.takeWhile_cons_of_pos hf,aq,P3 f l d c (i+1) (by omega),List.length_cons]
   omega
theorem II {α:Type}(f:α→Bool)(l:List α):l.take (l.takeWhile f).length=l.takeWhile f∧l.drop (l.takeWhile f).length=l.dropWhile f:=by
 have e:=List.takeWhile_append_dropWhile (p:=f) (l:=l)
 have h1:(l.takeWhile f++l.dropWhile f).take (l.takeWhile f).length=l.takeWhile f:=List.take_left
 have h2:(l.takeWhile f++l.dropWhile f).drop (l.takeWhile f).length=l.dropWhile f:=List.drop_left
 rw[e] at h1 h2
 exact⟨h1,h2⟩
theorem qSv {α:Type}(f:α→Bool)(l:List α):(l.takeWhile f).length≤l.length:=(List.takeWhile_sublist f).length_le
theorem P4 {α:Type}{b:Nat}(f:α→Bool)(l:List α)(p:α)(hl:l.length≤1000)(hb:b≤1000):ins b l (((l.takeWhile f).length:Nat):Int) [p]=some (l.takeWhile f++(p::l.dropWhile f)):=by
 unfold ins
 have h:=qSv f l
 have hm:(l.length+1)*b≤1001*1000:=Nat.mul_le_mul (by omega) hb
 rw[ai (show(0:Int)≤((l.takeWhile f).length:Int) by omega),ai (show((l.takeWhile f).length:Int)≤(l.length:Int) by omega),yF (show(l.length+1)*b≤140737488355328 by omega) (by omega),aN,(II f l).1,(II f l).2]
 rfl
def nz (l:List zC)(p:zC):List zC:=l.takeWhile (fun q=>fl q p)++(p::l.dropWhile (fun q=>fl q p))
def IJ (l:List zC)(p:zC):List zC:=l.takeWhile (fun q=>mz q p)++(p::l.dropWhile (fun q=>mz q p))
theorem qXx {k:Nat}{l:List zC}(hl:vB l):tj k l=some l:=by
 unfold vB at hl
 unfold tj
 rw[yF (by omega) (by omega)]
 rfl
theorem yYv {k:Nat}(hk:3≤k)(l:List zC)(hl:vB l)(di:l.length<k)(p:zC):AV k k l 0 p=some (l,(((l.takeWhile (fun q=>fl q p)).length:Nat):Int),p):=by
 unfold vB at hl
 have := P2 (L := fun n i => AV k n l i p) (N := l.length) (fun x => fl (l.getD x pd) p) (fun i => (l, (i : Int), p)) (fun n=>by
  show AW k _ l l.length p=_
  unfold AW
  simp only [qC, aj (Nat.lt_irrefl _), ao]) (fun n i hi=>by
  show AW k _ l i p=_
  unfold AW
  obtain⟨x,h1,h2,_⟩:=qT0 hk (l.getD i pd) p
  simp only[pd] at h1
  simp only[qZ,qC,aN,ai hi,aq,h1,an,h2,qY hi (show l.length<9223372036854775808 by omega)]
  cases fl (l.getD i pd) p<;>rfl) l.length 0 k (by omega) di
 have e:((0:Nat):Int)=0:=rfl
 rw[e] at this
 show AV k k l 0 p=_
 rw[this,P3 (fun q=>fl q p) l pd l.length 0 (by omega),List.drop_zero,Nat.zero_add]
theorem P5 {k:Nat}{l:List zC}(hk:3≤k)(di:l.length<k)(hl:vB l)(p:zC):
  tl k l p=some (bif (wL l p.1).isSome then(l,6) else bif decide (40≤l.length) then(l,3) else(nz l p,0)):=by
 have fj:=hl
 unfold vB at hl
 unfold tl
 rw[EZ di (by omega)]
 unfold v7
 cases hp:wL l p.1 with
 |some x=>
  have e1:decide ((x:Int)≥0)=true:=ai (by omega)
  simp only[an,e1,aq,Option.isSome_some]
 |none=>
  have e1:decide ((-1:Int)≥0)=false:=rfl
  simp only[an,e1,ao,Option.isSome_none]
  by_cases h:40≤l.length
  ·rw[ai h,ai (show(l.length:Int)≥40 by omega)];rfl
  ·rw[aj h,aj (show¬(l.length:Int)≥40 by omega)]
   simp only[ao,yYv hk l fj di,an,qXx fj,IK]
   rw[P4 _ l p hl (by decide)]
   rfl
theorem P6 {l:List zC}{x:Nat}(h:vB l):vB (yU l x):=by
 unfold vB at*
 have:=(qz l x).length_le
 omega
def E3 (l:List zC)(id:Int):List zC:=match wL l id with|some x=>yU l x|none=>l
theorem qVu {l:List zC}{id:Int}(hd:qT l):wL (E3 l id) id=none:=by
 cases h:wL (E3 l id) id with
 |none=>rfl
 |some y=>
  exfalso
  obtain⟨h1,h2⟩:=lR h
  unfold E3 at h h1 h2
  cases hp:wL l id with
  |none=>
   rw[hp] at h
   rw[hp] at h;cases h
  |some x=>
   rw[hp] at h1 h2
   obtain⟨h3,h4⟩:=lR hp
   have hm:=wY (d:=pd) h1
   have e:=EX l x pd h3
   unfold qT at hd
   rw[e] at hd
   have E4:=List.pairwise_append.1 hd
   have P7:=List.pairwise_cons.1 E4.2.1
   simp only at h1 h2 hm
   unfold yU at hm
   rcases List.mem_append.1 hm with hm|hm
   ·exact E4.2.2 _ hm _ (List.mem_cons_self ..) (h2.trans h4.symm)
   ·exact P7.1 _ hm (h4.trans h2.symm)
theorem vI2 {k:Nat}{l:List zC}(hk:3≤k)(di:l.length<k)(hl:vB l)(hd:qT l)(h40:l.length≤40){id:Int}{x:Nat}(hx:wL l id=some x)(c:Int):
  AY k l id c=some (nz (yU l x) ((l.getD x pd).1,(l.getD x pd).2.1,(l.getD x pd).2.2.1,(l.getD x pd).2.2.2.1,c,(l.getD x pd).2.2.2.2.2.1,(l.getD x pd).2.2.2.2.2.2),0):=by
 have dD:=lR hx
 have hw:=qVu (id:=id) hd
 unfold E3 at hw
 rw[hx] at hw
 have hlen:=nv dD.1
 unfold AY
 rw[v8 di hl]
 unfold nx
 rw[hx]
 simp only[an,decide_true,bd,ao]
 rw[P5 hk (by omega) (P6 hl)]
 simp only[dD.2,hw,Option.isSome_none,ao,aj (show¬40≤(yU l x).length by omega),an]
theorem vJz {k:Nat}{l:List zC}(hk:3≤k)(di:l.length<k)(hl:vB l)(hd:qT l)(h40:l.length≤40){id:Int}{x:Nat}(hx:wL l id=some x):
  AZ k l id=some (nz (yU l x) (l.getD x pd),0):=by
 have dD:=lR hx
 have hw:=qVu (id:=id) hd
 unfold E3 at hw
 rw[hx] at hw
 have hlen:=nv dD.1
 unfold AZ
 rw[v8 di hl]
 unfold nx
 rw[hx]
 simp only[an,decide_true,bd,ao]
 rw[P5 hk (by omega) (P6 hl)]
 simp only[dD.2,hw,Option.isSome_none,ao,aj (show¬40≤(yU l x).length by omega),an]
 simp only[E5]
 rw[←dD.2]
theorem yYu {k:Nat}(hk:3≤k)(l:List zC)(hl:vB l)(di:l.length<k)(p:zC):A0 k k 0 l p=some ((((l.takeWhile (fun q=>mz q p)).length:Nat):Int),l,p):=by
 unfold vB at hl
 have := P2 (L := fun n i => A0 k n i l p) (N := l.length) (fun x => mz (l.getD x pd) p) (fun i => ((i : Int), l, p)) (fun n=>by
  show A2 k _ l.length l p=_
  unfold A2
  simp only [qC, aj (Nat.lt_irrefl _), ao]) (fun n i hi=>by
  show A2 k _ i l p=_
  unfold A2
  obtain⟨x,h1,_,h2⟩:=qT0 hk (l.getD i pd) p
  simp only[pd] at h1
  simp only[qZ,qC,aN,ai hi,aq,h1,an,h2,qY hi (show l.length<9223372036854775808 by omega)]
  cases mz (l.getD i pd) p<;>rfl) l.length 0 k (by omega) di
 have e:((0:Nat):Int)=0:=rfl
 rw[e] at this
 show A0 k k 0 l p=_
 rw[this,P3 (fun q=>mz q p) l pd l.length 0 (by omega),List.drop_zero,Nat.zero_add]
theorem yYo {k:Nat}{l:List zC}(hk:3≤k)(di:l.length<k)(hl:vB l){id:Int}{x:Nat}(hx:wL l id=some x):
  A3 k l id=some (IJ (yU l x) (l.getD x pd),0):=by
 have fj:=hl
 unfold vB at hl
 have dD:=lR hx
 have hlen:=nv dD.1
 have e1:decide ((x:Int)<0)=false:=aj (by omega)
 unfold A3 P8
 rw[EZ di (by omega)]
 unfold v7
 rw[hx]
 simp only[an,e1,ao,qXx fj,qY dD.1 (show l.length<9223372036854775808 by omega),yQm k dD.1 fj,qZ,ai dD.1,aq,aN]
 have e0:decide ((0:Int)=0)=true:=rfl
 simp only[kU,E5,e0,bd,ao]
 rw[yYu hk (yU l x) (P6 fj) (by omega)]
 simp only[an,IK]
 rw[P4 _ (yU l x) _ (by omega) (by decide)]
 rfl
def wR (l:List Int)(id:Int):Nat:=(l.takeWhile (fun x=>decide (x<id))).length
theorem vMq {x:Int}(h0:0≤x)(h1:x<9223372036854775808):zA (shr .u64 (IntKind.wrap .u64 (zA x)) 1)=x/2:=by
 have e1:zA x=x:=yA (by omega) h1
 have e2:IntKind.wrap .u64 x=x:=by
  unfold IntKind.wrap
  simp only[IntKind.bits,IntKind.signed,Bool.false_and,Bool.false_eq_true,if_false]
  omega
 rw[e1,e2]
 have e3:shr .u64 x 1=x/2:=by
  unfold shr
  have:(2:Int)^(min (1:Int).toNat (IntKind.bits .u64))=2:=by decide
  rw[this,Int.fdiv_eq_ediv_of_nonneg _ (by omega)]
 rw[e3]
 exact yA (by omega) (by omega)
theorem vB5 (k:Nat)(a b:Int):IL k a b=some (decide (a<b)):=by
 unfold IL IM
 simp only[decide_true,bd,an,ao]
theorem P9 {k:Nat}{l:List Int}{id:Int}(hl:l.length≤1000){c:Nat}(hc:c≤l.length)(h1:∀x,x<c→l.getD x 0<id)(h2:∀x,c≤x→x<l.length→id≤l.getD x 0)(s6:Int):
  ∀(n i j:Nat),i≤c→c≤j→j≤l.length→j-i<n→E6 k n l id s6 i j=some (l,id,s6,(c:Int))
 |0,_,_,_,_,_,h=>absurd h (Nat.not_lt_zero _)
 |n+1,i,j,hi,hj,uC,hn=>by
  show IN k (E6 k n) l id s6 i j=_
  unfold IN
  rw[qC]
  by_cases j0:i<j
  ·have hh:zA (shr .u64 (IntKind.wrap .u64 (zA ((i:Int)+(j:Int)))) 1)=(((i+j)/2:Nat):Int):=by
    rw[vMq (by omega) (by omega)];omega
   have hm:(i+j)/2<l.length:=by omega
   rw[ai j0,aq,hh,qZ,ai hm,aq,vB5]
   simp only[an,aN]
   by_cases aV:(i+j)/2<c
   ·rw[ai (h1 _ aV),aq,qY hm (by omega)]
    exact P9 hl hc h1 h2 s6 n _ j (by omega) hj uC (by omega)
   ·have:=h2 _ (Nat.not_lt.1 aV) hm
    rw[aj (show¬l.getD ((i+j)/2) 0<id by omega),ao]
    exact P9 hl hc h1 h2 s6 n i _ hi (by omega) (by omega) (by omega)
  ·rw[aj j0,ao]
   have:i=c:=by omega
   rw[this]
theorem yZd {k:Nat}{l:List Int}{id:Int}(di:l.length<k)(hl:l.length≤1000){c:Nat}(hc:c≤l.length)(h1:∀x,x<c→l.getD x 0<id)(h2:∀x,c≤x→x<l.length→id≤l.getD x 0):
  A4 k l id=some ((c:Int),decide (c<l.length)&&decide (l.getD c 0=id)):=by
 unfold A4
 have:=P9 (k:=k) hl hc h1 h2 (l.length:Int) k 0 l.length (by omega) hc (Nat.le_refl _) (by omega)
 rw[show((0:Nat):Int)=0 from rfl] at this
 rw[this]
 simp only[an,qC,qZ,aN]
 by_cases h:c<l.length
 ·simp only[ai h,aq,Bool.true_and]
  by_cases h3:l.getD c 0=id
  ·rw[ai h3];rfl
  ·rw[aj h3]
   unfold IP
   simp only[decide_true,ao,an,bd]
 ·simp only[aj h,ao,Bool.false_and]
def tm (l:List Int):Prop:=List.Pairwise (fun a b=>a<b) l
theorem qVl {l:List Int}{id:Int}:∀x,x<wR l id→l.getD x 0<id:=by
 intro x hx
 unfold wR at hx
 have h:=II (fun x=>decide (x<id)) l
 have e:l.getD x 0=(l.takeWhile (fun x=>decide (x<id))).getD x 0:=by
  rw[←h.1,List.getD_eq_getElem?_getD,List.getD_eq_getElem?_getD,List.getElem?_take,if_pos hx]
 rw[e]
 have hm:=wY (d:=(0:Int)) hx
 have:=List.all_eq_true.1 (List.all_takeWhile (p:=fun x=>decide (x<id)) (l:=l)) _ hm
 simpa using this
theorem yBx {l:List Int}(ha:tm l){id:Int}:∀x,wR l id≤x→x<l.length→id≤l.getD x 0:=by
 intro x hx hl
 have hi:wR l id<l.length:=by omega
 have h:=II (fun x=>decide (x<id)) l
 have h0:¬l.getD (wR l id) 0<id:=by
  have hd:l.drop (wR l id)=l[wR l id]::l.drop (wR l id+1):=List.drop_eq_getElem_cons hi
  have h2:=h.2
  unfold wR at hd
  rw[h2] at hd
  have bc:l.dropWhile (fun x=>decide (x<id))≠[]:=by rw[hd];simp
  have:=List.head_dropWhile_not (fun x=>decide (x<id)) bc
  have e:(l.dropWhile (fun x=>decide (x<id))).head bc=l[wR l id]:=by
   unfold wR
   simp only[hd,List.head_cons]
  rw[e] at this
  rw[List.getD_eq_getElem?_getD,List.getElem?_eq_getElem hi]
  simpa using this
 by_cases e:x=wR l id
 ·rw[e];omega
 ·have:=List.pairwise_iff_getElem.1 ha (wR l id) x hi hl (by omega)
  rw[List.getD_eq_getElem?_getD,List.getElem?_eq_getElem hl]
  rw[List.getD_eq_getElem?_getD,List.getElem?_eq_getElem hi] at h0
  simp only[Option.getD_some] at h0⊢
  omega
theorem vIc {l:List Int}(ha:tm l)(id:Int):(decide (wR l id<l.length)&&decide (l.getD (wR l id) 0=id))=decide (id∈l):=by
 by_cases hm:id∈l
 ·obtain⟨x,hx,e⟩:=List.getElem_of_mem hm
  have e':l.getD x 0=id:=by rw[List.getD_eq_getElem?_getD,List.getElem?_eq_getElem hx];exact e
  have h1:¬x<wR l id:=fun h=>by have:=qVl x h;omega
  have h3:wR l id<l.length:=by omega
  have h4:¬wR l id<x:=fun h=>by
   have g1:=yBx ha (id:=id) (wR l id) (Nat.le_refl _) h3
   have g2:=List.pairwise_iff_getElem.1 ha (wR l id) x h3 hx h
   rw[List.getD_eq_getElem?_getD,List.getElem?_eq_getElem h3] at g1
   simp only[Option.getD_some] at g1
   omega
  have h5:wR l id=x:=by omega
  rw[ai hm,ai h3,h5,ai e'];rfl
 ·rw[aj hm]
  by_cases h:wR l id<l.length
  ·rw[aj (show¬l.getD (wR l id) 0=id from fun e=>hm (e▸wY h)),Bool.and_false]
  ·rw[aj h];rfl
def tn (l:List Int)(id:Int):List Int:=l.takeWhile (fun x=>decide (x<id))++(id::l.dropWhile (fun x=>decide (x<id)))
theorem vGz {k:Nat}{l:List Int}(di:l.length<k)(hl:l.length≤1000)(ha:tm l)(id:Int):A4 k l id=some ((wR l id:Int),decide (id∈l)):=by
 rw[yZd di hl (qSv _ l) qVl (yBx ha)]
 show some ((wR l id:Int),decide (wR l id<l.length)&&decide (l.getD (wR l id) 0=id))=_
 rw[vIc ha]
theorem vEh {k:Nat}{l:List Int}(di:l.length<k)(hl:l.length≤1000)(ha:tm l)(id:Int):
  A5 k l id=some (bif decide (id∈l) then(l,6) else bif decide (200≤l.length) then(l,3) else(tn l id,0)):=by
 unfold A5
 rw[vGz di hl ha]
 simp only[an]
 by_cases hm:id∈l
 ·rw[ai hm];rfl
 ·rw[aj hm]
  simp only[ao]
  by_cases h:200≤l.length
  ·rw[ai h,ai (show(l.length:Int)≥200 by omega)];rfl
  ·rw[aj h,aj (show¬(l.length:Int)≥200 by omega)]
   have e2:np k l=some l:=by
    unfold np
    rw[yF (by omega) (by omega)]
    rfl
   simp only[ao,e2,an,yEf]
   unfold wR
   rw[P4 _ l id hl (by decide)]
   rfl
def jg (l:List Int):Int:=zT (fun x=>x) l
def A6 (x:Int):Bool:=decide (-9223372036854775808≤x)&&decide (x<9223372036854775808)
theorem yOr (x:Int):shr .i64 x 63=x/9223372036854775808:=by
 show x.fdiv (2^(min 63 64))=_
 rw[Int.fdiv_eq_ediv_of_nonneg _ (by decide)]
 rfl
theorem nA (x:Int):IntKind.wrap .u64 x=x%18446744073709551616:=by
 unfold IntKind.wrap
 simp only[IntKind.bits,IntKind.signed,Bool.false_and]
 rfl
theorem vHo {x:Int}(h:0≤x∧x<18446744073709551616):zA x=if x<9223372036854775808 then x else x-18446744073709551616:=by
 unfold zA IntKind.wrap
 simp only[IntKind.bits,IntKind.signed,Bool.true_and]
 by_cases c:x%2^64≥2^(64-1)
 ·rw[if_pos (by simpa using c)]
  split<;>omega
 ·rw[if_neg (by simpa using c)]
  split<;>omega
theorem yVq (l:List Int)(i:Nat)(hi:i<l.length):jg (l.take (i+1))=jg (l.take i)+l.getD i 0:=by
 have:l.take (i+1)=l.take i++[l.getD i 0]:=by
  rw[List.take_add_one,List.getD_eq_getElem?_getD,List.getElem?_eq_getElem hi]
  rfl
 unfold jg
 rw[this,kp]
 simp[zT]
theorem yZa {k:Nat}{l:List Int}(hk:l.length<k)(hl:l.length≤1000000)(hw:∀i,i<l.length→-9223372036854775808≤l.getD i 0∧l.getD i 0<9223372036854775808):
  E7 k l=some (bif A6 (jg l) then(jg l,true) else(0,false)):=by
 obtain ⟨s', g1, g2, g3, g4⟩ := vY (L := fun n i (s : Int × Int) => A7 k n s.1 s.2 l (l.length : Int) i) (N := l.length) (fun s => (s.1, s.2)) (fun i s => (0 ≤ s.2 ∧ s.2 < 18446744073709551616) ∧ s.1 * 18446744073709551616 + s.2 = jg (l.take i) ∧ (-(i : Int) ≤ s.1 ∧ s.1 ≤ i)) (fun n s _=>by
  show A8 k _ s.1 s.2 l l.length l.length=_
  unfold A8
  simp only [qC, aj (Nat.lt_irrefl _), ao]) (fun n i s hi hs=>by
  obtain⟨h,lo⟩:=s
  obtain⟨⟨h1,h2⟩,h3,h4⟩:=hs
  simp only at h1 h2 h3 h4
  show∃s',A8 k _ h lo l l.length i=_∧_
  unfold A8 vi
  have hb:=hw i hi
  have A9:=yVq l i hi
  obtain⟨v,hv⟩:∃v,l.getD i 0=v:=⟨_,rfl⟩
  rw[hv] at hb A9
  simp only[qC,qZ,aN,ai hi,aq,hv,nA,yOr,decide_true,an,qY hi (show l.length<9223372036854775808 by omega)]
  obtain⟨u,hu⟩:∃u,v%18446744073709551616=u:=⟨_,rfl⟩
  rw[hu]
  obtain⟨q,hq⟩:∃q,v/9223372036854775808=q:=⟨_,rfl⟩
  rw[hq]
  have X4:u=v-q*18446744073709551616:=by omega
  have mA:q=0∨q= -1:=by omega
  obtain⟨a,ha⟩:∃a:Nat,lo.toNat+u.toNat+0=a:=⟨_,rfl⟩
  rw[ha]
  have kL:(a:Int)=lo+u:=by omega
  obtain⟨c,hc⟩:∃c:Nat,a/18446744073709551616=c:=⟨_,rfl⟩
  obtain⟨m,hm⟩:∃c:Nat,a%18446744073709551616=c:=⟨_,rfl⟩
  rw[hc,hm]
  have OX:a=c*18446744073709551616+m:=by omega
  have vd:m<18446744073709551616:=by omega
  have j3:c≤1:=by omega
  have e1:zA (Int.ofNat c)=(c:Int):=yA (by show(_:Int)≤((c:Nat):Int);omega) (by show((c:Nat):Int)<_;omega)
  have e2:zA (q+(c:Int))=q+c:=yA (by omega) (by omega)
  have e3:zA (h+(q+(c:Int)))=h+(q+c):=yA (by omega) (by omega)
  rw[e1,e2,e3]
  refine⟨(h+(q+c),(m:Int)),rfl,⟨by show(0:Int)≤(m:Int);omega,by show(m:Int)<_;omega⟩,?_,?_⟩
  ·rw[A9]
   show(h+(q+c))*18446744073709551616+(m:Int)=_
   omega
  ·show-((i+1:Nat):Int)≤h+(q+c)∧h+(q+c)≤((i+1:Nat):Int)
   omega) (s:=(0,0)) hk ⟨⟨by show(0:Int)≤0;omega,by show(0:Int)<_;omega⟩,rfl,by show-((0:Nat):Int)≤0;omega,by show(0:Int)≤((0:Nat):Int);omega⟩
 have Qa:A7 k k 0 0 l (l.length:Int) 0=some (s'.1,s'.2):=g1
 rw[List.take_length] at g3
 unfold E7
 rw[Qa]
 simp only[an,yOr]
 rw[vHo g2]
 by_cases c:A6 (jg l)=true
 ·have c':-9223372036854775808≤jg l∧jg l<9223372036854775808:=by simpa[A6] using c
  rw[c]
  by_cases d:s'.2<9223372036854775808
  ·rw[if_pos d,ai (show s'.1=s'.2/9223372036854775808 by omega)]
   simp only[bd,ao,aq]
   rw[show s'.2=jg l by omega]
  ·rw[if_neg d,ai (show s'.1=(s'.2-18446744073709551616)/9223372036854775808 by omega)]
   simp only[bd,ao,aq]
   rw[show s'.2-18446744073709551616=jg l by omega]
 ·have c':¬(-9223372036854775808≤jg l∧jg l<9223372036854775808):=by simpa[A6] using c
  rw[Bool.not_eq_true] at c
  rw[c]
  by_cases d:s'.2<9223372036854775808
  ·rw[if_pos d,aj (show¬s'.1=s'.2/9223372036854775808 by omega)]
   rfl
  ·rw[if_neg d,aj (show¬s'.1=(s'.2-18446744073709551616)/9223372036854775808 by omega)]
   rfl
theorem Qb {x:Int}(h:0≤x):gl .u64 x 4294967295=x%4294967296:=by
 obtain⟨n,rfl⟩:=Int.eq_ofNat_of_zero_le h
 unfold gl ue
 rw[nA]
 have e1:(BitVec.ofInt IntKind.u64.bits (n:Int)&&&BitVec.ofInt IntKind.u64.bits 4294967295).toNat=n%4294967296:=by
  rw[BitVec.toNat_and,BitVec.toNat_ofInt,BitVec.toNat_ofInt]
  have e2:((4294967295:Int)%((2^IntKind.u64.bits:Nat):Int)).toNat=2^32-1:=by decide
  rw[e2,Nat.and_two_pow_sub_one_eq_mod]
  have e3:((n:Int)%((2^IntKind.u64.bits:Nat):Int)).toNat=n%18446744073709551616:=by
   show((n:Int)%((18446744073709551616:Nat):Int)).toNat=_
   omega
  rw[e3]
  show n%18446744073709551616%4294967296=_
  omega
 rw[e1]
 omega
theorem yWg (x:Int):shr .u64 x 32=x/4294967296:=by
 show x.fdiv (2^(min 32 64))=_
 rw[Int.fdiv_eq_ediv_of_nonneg _ (by decide)]
 rfl
theorem vG1 {a1 a0 b1 b0:Int}:(a1*4294967296+a0)*(b1*4294967296+b0)=a1*b1*18446744073709551616+(a1*b0+a0*b1)*4294967296+a0*b0:=by
 rw[Int.add_mul,Int.mul_add,Int.mul_add]
 have e1:a1*4294967296*(b1*4294967296)=a1*b1*18446744073709551616:=by
  rw[Int.mul_assoc,←Int.mul_assoc 4294967296 b1,Int.mul_comm 4294967296 b1,Int.mul_assoc b1,←Int.mul_assoc];rfl
 have e2:a1*4294967296*b0=a1*b0*4294967296:=by rw[Int.mul_assoc,Int.mul_comm 4294967296 b0,←Int.mul_assoc]
 have e3:a0*(b1*4294967296)=a0*b1*4294967296:=by rw[←Int.mul_assoc]
 rw[e1,e2,e3]
 omega
theorem re {a b A B:Int}(h0:0≤a)(h1:a≤A)(g0:0≤b)(g1:b≤B):0≤a*b∧a*b≤A*B:=
 ⟨Int.mul_nonneg h0 g0,Int.mul_le_mul h1 g1 g0 (by omega)⟩
theorem qSj (k:Nat){x y:Int}(hx:0≤x∧x<18446744073709551616)(hy:0≤y∧y<18446744073709551616):E8 k x y=some (x*y/18446744073709551616,x*y%18446744073709551616):=by
 unfold E8
 simp only[yWg,Qb hx.1,Qb hy.1,nA]
 obtain⟨a1,h1⟩:∃a,x/4294967296=a:=⟨_,rfl⟩
 obtain⟨a0,h0⟩:∃a,x%4294967296=a:=⟨_,rfl⟩
 obtain⟨b1,g1⟩:∃a,y/4294967296=a:=⟨_,rfl⟩
 obtain⟨b0,g0⟩:∃a,y%4294967296=a:=⟨_,rfl⟩
 have hxe:x=a1*4294967296+a0:=by omega
 have hye:y=b1*4294967296+b0:=by omega
 rw[h1,h0,g1,g0]
 have v9:0≤a1∧a1≤4294967295:=by omega
 have kM:0≤a0∧a0≤4294967295:=by omega
 have pO:0≤b1∧b1≤4294967295:=by omega
 have IQ:0≤b0∧b0≤4294967295:=by omega
 have p11:=re v9.1 v9.2 pO.1 pO.2
 have ql:=re v9.1 v9.2 IQ.1 IQ.2
 have p01:=re kM.1 kM.2 pO.1 pO.2
 have p00:=re kM.1 kM.2 IQ.1 IQ.2
 have Il:x*y=a1*b1*18446744073709551616+(a1*b0+a0*b1)*4294967296+a0*b0:=by rw[hxe,hye,vG1]
 rw[Il]
 generalize a1*b1=u at*
 generalize a1*b0=v at*
 generalize a0*b1=s at*
 generalize a0*b0=t at*
 have c1:(t%18446744073709551616)=t:=by omega
 have c2:(v%18446744073709551616+t/4294967296)%18446744073709551616=v+t/4294967296:=by omega
 rw[c1,c2]
 have E9:gl .u64 (v+t/4294967296) 4294967295=(v+t/4294967296)%4294967296:=Qb (by omega)
 rw[E9]
 refine congrArg some (Prod.ext ?_ ?_)
 ·show _%_=_/_
  omega
 ·rfl
theorem vFs (k:Nat){x:Int}(hx:0≤x∧x<18446744073709551616):IS k 0 x 10000=some (x/10000,x%10000):=by
 unfold IS
 have e1:decide ((10000:Int)=0)=false:=rfl
 have e2:decide ((10000:Int)≤0)=false:=rfl
 simp only[e1,e2,decide_true,ao,aq,eC,nA]
 rw[Int.tdiv_eq_ediv_of_nonneg hx.1,Int.tmod_eq_emod_of_nonneg hx.1]
 have:x/10000%18446744073709551616=x/10000:=by omega
 rw[this]
def Ba (price many cut:Int):Int:=price*many*(10000-cut)/10000
theorem vLn {p m c:Int}(hp:0≤p∧p≤1048576)(hm:0≤m∧m≤1099511627776)(hc:0≤c∧c≤10000):0≤Ba p m c∧Ba p m c≤1152921504606846976:=by
 have h1:=re hp.1 hp.2 hm.1 hm.2
 have h2:=re h1.1 h1.2 (show 0≤10000-c by omega) (show 10000-c≤10000 by omega)
 unfold Ba
 generalize p*m*(10000-c)=z at*
 omega
theorem vKl (k:Nat){p m c:Int}(hp:0≤p∧p≤1048576)(hm:0≤m∧m≤1099511627776)(hc:0≤c∧c≤10000):IT k p m c=some (Ba p m c,true):=by
 unfold IT Qc
 have w1:zA (10000-c)=10000-c:=yA (by omega) (by omega)
 have e1:decide (p<0)=false:=aj (by omega)
 have e2:decide (m<0)=false:=aj (by omega)
 have e3:decide (c≥0)=true:=ai (by omega)
 have e4:decide (c≤10000)=true:=ai (by omega)
 have u1:p%18446744073709551616=p:=by omega
 have u2:m%18446744073709551616=m:=by omega
 have u3:(10000-c)%18446744073709551616=10000-c:=by omega
 have h1:=re hp.1 hp.2 hm.1 hm.2
 have hP:p*m/18446744073709551616=0:=by omega
 have hP2:p*m%18446744073709551616=p*m:=by omega
 have t0:Int.tmod 0 10000=0:=by simp
 have t1:Int.tdiv 0 10000=0:=by simp
 rw[e1,e2,e3,e4,ao,ao,aq,an,bd,ao,nA p,nA m,u1,u2,qSj k (show 0≤p∧p<18446744073709551616 by omega) (show 0≤m∧m<18446744073709551616 by omega),an,hP,hP2]
 dsimp only
 rw[t0,t1,vFs k (show 0≤p*m∧p*m<18446744073709551616 by omega),an]
 dsimp only
 rw[w1,nA (10000-c),u3]
 unfold Ba
 obtain⟨l,hl⟩:∃l,10000-c=l:=⟨_,rfl⟩
 rw[hl]
 obtain⟨P,hPe⟩:∃P,p*m=P:=⟨_,rfl⟩
 rw[hPe] at h1⊢
 have fj:0≤l∧l≤10000:=by omega
 rw[qSj k (show 0≤P/10000∧P/10000<18446744073709551616 by omega) (show 0≤l∧l<18446744073709551616 by omega)]
 have hq:=re (show 0≤P/10000 by omega) (show P/10000≤115292150460684 by omega) fj.1 fj.2
 have hr:=re (show 0≤P%10000 by omega) (show P%10000≤9999 by omega) fj.1 fj.2
 have wa:P*l=P/10000*l*10000+P%10000*l:=by
  have:P=P/10000*10000+P%10000:=by omega
  have e:P/10000*l*10000=P/10000*10000*l:=by rw[Int.mul_assoc,Int.mul_comm l,←Int.mul_assoc]
  rw[e,←Int.add_mul,←this]
 rw[wa]
 generalize P/10000*l=a at*
 generalize P%10000*l=b at*
 have v1:a/18446744073709551616=0:=by omega
 have v2:a%18446744073709551616=a:=by omega
 have v3:b%18446744073709551616=b:=by omega
 have v4:Int.tdiv b 10000=b/10000:=Int.tdiv_eq_ediv_of_nonneg hr.1
 have v5:b/10000%18446744073709551616=b/10000:=by omega
 have ha:vi k a (b/10000) 0=some (a+b/10000,0):=by
  have n1:(Int.ofNat ((a.toNat+(b/10000).toNat+0)%18446744073709551616))=a+b/10000:=by rw[Int.ofNat_eq_natCast];omega
  have n2:(Int.ofNat ((a.toNat+(b/10000).toNat+0)/18446744073709551616))=0:=by rw[Int.ofNat_eq_natCast];omega
  unfold vi
  rw[ai rfl,aq,n1,n2]
 rw[an]
 dsimp only
 rw[v1,v2,nA b,v3,v4,nA (b/10000),v5,ha,an]
 dsimp only
 have z1:IntKind.wrap .u64 0=0:=by rw[nA];omega
 have z2:IntKind.wrap .u64 (0+0)=0:=by rw[nA];omega
 have z3:decide ((0:Int)>0)=false:=aj (by omega)
 have z4:decide (a+b/10000>9223372036854775807)=false:=aj (by omega)
 have z5:zA (a+b/10000)=a+b/10000:=yA (by omega) (by omega)
 rw[z1,z2,z3,z4,z5,ao,ao,ao]
 have:(a*10000+b)/10000=a+b/10000:=by omega
 rw[this]
abbrev iI:=Int×Int
abbrev wb:iI:=(0,0)
def nB (sa:List iI)(pr h:List Int)(i:Nat):Int:=Ba (pr.getD i 0) (h.getD i 0) (sa.getD i wb).2
def kq (sa:List iI)(pr h:List Int):Int:=qO (nB sa pr h) sa.length
structure kr (sa:List iI) (pr h:List Int):Prop where
 n3:sa.length≤3
 pl:pr.length=sa.length
 hl:h.length=sa.length
 cut:∀i,i<sa.length→0≤(sa.getD i wb).2∧(sa.getD i wb).2≤10000
 price:∀i,i<sa.length→0≤pr.getD i 0∧pr.getD i 0≤1048576
 hold:∀i,i<sa.length→0≤h.getD i 0∧h.getD i 0≤1099511627776
theorem Qd {sa:List iI}{pr h:List Int}(L:kr sa pr h){i:Nat}(hi:i<sa.length):0≤nB sa pr h i∧nB sa pr h i≤1152921504606846976:=vLn (L.price i hi) (L.hold i hi) (L.cut i hi)
theorem yJ1 (g:Nat→Int):∀n,jg ((List.range n).map g)=qO g n
 |0=>rfl
 |n+1=>by
  rw[List.range_succ,List.map_append]
  unfold jg
  rw[kp]
  have:=yJ1 g n
  unfold jg at this
  rw[this]
  show qO g n+(g n+0)=qO g n+g n
  omega
theorem Qe {g:Nat→Int}{A:Int}:∀{n:Nat},(∀j,j<n→0≤g j∧g j≤A)→0≤qO g n∧qO g n≤n*A
 |0,_=>by simp[qO]
 |n+1,h=>by
  have h1:=Qe (n:=n) (fun j hj=>h j (by omega))
  have h2:=h n (by omega)
  have h3:((n+1:Nat):Int)*A=n*A+A:=by rw[Int.natCast_add,Int.add_mul];simp
  rw[h3]
  show 0≤qO g n+g n∧qO g n+g n≤_
  omega
theorem vBs {k:Nat}{sa:List iI}{pr h:List Int}(L:kr sa pr h)(hk:10≤k):Bb k k pr h sa sa.length 0 []=some (.inl ((List.range sa.length).map (nB sa pr h))):=by
 have hn:=L.n3
 obtain ⟨s', h1, h2⟩ := vY (L := fun n i (s : List Int) => Bb k n pr h sa sa.length i s) (N := sa.length) (fun s => .inl s) (fun i s => s = (List.range i).map (nB sa pr h)) (fun n s _=>by
  show Bc k _ pr h sa sa.length sa.length s=_
  unfold Bc
  simp only [qC, aj (Nat.lt_irrefl _), ao]) (fun n i s hi hs=>by
  refine⟨s++[nB sa pr h i],?_,?_⟩
  ·show Bc k _ pr h sa sa.length i s=_
   unfold Bc
   have iz:s.length≤3:=by rw[hs,List.length_map,List.length_range];omega
   have hw:=vKl k (L.price i hi) (L.hold i hi) (L.cut i hi)
   simp only[qC,qZ,aN,ai hi,ai (show i<pr.length by rw[L.pl];exact hi),ai (show i<h.length by rw[L.hl];exact hi),aq,qY hi (show sa.length<9223372036854775808 by omega)]
   rw[hw]
   simp only[an,bd,ao,yF (show(s.length+1)*8≤140737488355328 by omega) (show s.length+1≤140737488355328 by omega),aq]
   rfl
  ·rw[hs,List.range_succ,List.map_append];rfl) (s:=[]) (show sa.length<k by omega) rfl
 have eH:Bb k k pr h sa sa.length 0 []=_:=h1
 rw[eH,h2]
theorem yNx {k:Nat}{sa:List iI}{pr h:List Int}(L:kr sa pr h)(hk:10≤k):oP k sa pr h=some (kq sa pr h,true):=by
 have hn:=L.n3
 have hb:=Qe (g:=nB sa pr h) (n:=sa.length) (fun j hj=>Qd L hj)
 have hm:(sa.length:Int)*1152921504606846976≤3*1152921504606846976:=Int.mul_le_mul_of_nonneg_right (by omega) (by decide)
 unfold oP
 have e1:decide ((pr.length:Int)=(sa.length:Int))=true:=ai (by rw[L.pl])
 have e2:decide ((h.length:Int)=(sa.length:Int))=true:=ai (by rw[L.hl])
 simp only[e1,e2,bd,ao]
 rw[vBs L hk]
 simp only[an]
 rw [yZa (by rw [List.length_map, List.length_range]; omega) (by rw [List.length_map, List.length_range]; omega) (fun i hi=>by
  rw[List.length_map,List.length_range] at hi
  have:=Qd L hi
  have e:((List.range sa.length).map (nB sa pr h)).getD i 0=nB sa pr h i:=by
   rw[List.getD_eq_getElem?_getD,List.getElem?_map,List.getElem?_range hi];rfl
  rw[e];omega)]
 rw[yJ1]
 have e3:A6 (qO (nB sa pr h) sa.length)=true:=by
  unfold A6
  rw[ai (by omega),ai (by omega)];rfl
 rw[e3]
 rfl
theorem IU {sa:List iI}{pr h:List Int}(L:kr sa pr h):0≤kq sa pr h:=(Qe (g:=nB sa pr h) (n:=sa.length) (fun j hj=>Qd L hj)).1
theorem yI0 {k:Nat}{l:List Int}(hl:l.length≤1000){i:Int}(h0:0≤i)(h1:i<l.length)(v:Int):nC k l i v=some (l.set i.toNat v):=by
 unfold nC
 have e2:np k l=some l:=by
  unfold np
  rw[yF (by omega) (by omega)]
  rfl
 simp only[e2,an,ai (show i≥0 by omega),ai h1,aq,fK h0 h1]
abbrev BT:=List qM×List (List Int)×List Int×List (List Int)
def yM (B:BT):Prop:=wU B.1 B.2.1 B.2.2.1 B.2.2.2
theorem IV {k:Nat}(hk:100<k){B:BT}(h:yM B){l:List zC}(hl:l.length≤80):
  ∃r,nr k B.1 B.2.1 B.2.2.1 B.2.2.2 l=some r∧PE k B.1 B.2.1 B.2.2.1 B.2.2.2 l=some r∧oO B.1 B.2.1 B.2.2.1 B.2.2.2 l r:=by
 obtain⟨r,h1,h2⟩:=Io hk h hl
 obtain⟨r',h3,h4⟩:=vEy hk h hl
 have:=h2.same h4
 subst this
 exact⟨r,h1,h3,h2⟩
def rf (B:BT)(l:List zC):Bool:=zz B.1 B.2.1 B.2.2.1 B.2.2.2 l
def iJ (k:Nat)(B:BT)(l:List zC):Option BT:=match nr k B.1 B.2.1 B.2.2.1 B.2.2.2 l with
 |some r=>bif decide (r.2.2.2.2=0)&&rf B l then some (r.1,r.2.1,r.2.2.1,r.2.2.2.1) else none
 |none=>none
theorem Bd {k:Nat}(hk:100<k){B C:BT}(h:yM B){l:List zC}(hl:l.length≤80)(hg:iJ k B l=some C):yM C∧C.1.length=B.1.length:=by
 obtain⟨r,h1,h2,h3⟩:=IV hk h hl
 unfold iJ at hg
 rw[h1] at hg
 simp only at hg
 cases hc:decide (r.2.2.2.2=0)&&rf B l with
 |false=>
  rw[hc] at hg
  cases hg
 |true=>
  rw[hc] at hg
  simp only[aq,Option.some.injEq] at hg
  subst hg
  refine⟨(EG h h3).2.1,?_⟩
  have:=EG h h3
  by_cases c:wF B.1.length l
  ·obtain⟨a',p',x,e⟩:=h3.1 c
   cases hi:kT a' B.2.1 B.2.2.1 p' with
   |false=>rw[hi] at e;subst e;rfl
   |true=>rw[hi] at e;subst e;exact x.al
  ·rw[h3.2 c]
def jW (k:Nat)(B:BT):List zC→Option (zC×BT)
 |[]=>none
 |p::l=>match iJ k B [p] with
  |some C=>some (p,C)
  |none=>jW k B l
theorem Fa {k:Nat}{B C:BT}{p:zC}:∀{l:List zC},jW k B l=some (p,C)→p∈l∧iJ k B [p]=some C
 |[],h=>by cases h
 |q::l,h=>by
  unfold jW at h
  cases hg:iJ k B [q] with
  |some D=>
   rw[hg] at h
   cases h
   exact⟨List.mem_cons_self ..,hg⟩
  |none=>
   rw[hg] at h
   have:=Fa h
   exact⟨List.mem_cons_of_mem _ this.1,this.2⟩
theorem vMg (k:Nat)(B:BT){m:List zC}{i:Nat}(hi:i<m.length):jW k B (m.drop i)=match iJ k B [m.getD i pd] with
  |some C=>some (m.getD i pd,C)
  |none=>jW k B (m.drop (i+1)):=by
 rw[List.drop_eq_getElem_cons hi]
 have e:m.getD i pd=m[i]:=by rw[List.getD_eq_getElem?_getD,List.getElem?_eq_getElem hi];rfl
 rw[e]
 rfl
theorem yJl (l:List zC)(t:Int):(wS l t).length≤l.length:=Nat.le_trans (List.length_filter_le _ _) (List.length_filter_le _ _)
def jI (l:List zC)(id:Int):List zC:=(nx l id).1
theorem Be {l:List zC}{p:zC}(h:p∈l):(jI l p.1).length+1=l.length∧List.Sublist (jI l p.1) l:=by
 obtain⟨x,hx⟩:=PZ h
 unfold jI nx
 rw[hx]
 have:=(lR hx).1
 refine⟨?_,qz l x⟩
 show(yU l x).length+1=l.length
 rw[nv this]
 omega
theorem IW {l:List zC}{t:Int}{p:zC}(h:p∈wS l t):p∈l:=(List.mem_filter.1 (List.mem_filter.1 h).1).1
inductive iK (k:Nat) (t:Int):BT→List zC→List zC→BT→List zC→Prop
 |stop {B:BT} {l:List zC} (h:jW k B (wS l t)=none):iK k t B l [] B l
 |step {B C D:BT} {l m done:List zC} {p:zC} (h:jW k B (wS l t)=some (p,C)) (h':iK k t C (jI l p.1) done D m):iK k t B l (p::done) D m
theorem yNl {k:Nat}(hk:100<k){B:BT}(h:yM B){l:List zC}(hl:l.length≤80):vy k B.1 B.2.1 B.2.2.1 B.2.2.2 l=some (rf B l):=vF4 hk h hl
theorem qSl {k:Nat}(hk:100<k){B:BT}(h:yM B)(m:List zC)(hm:m.length≤1000):∀c i n,i+c=m.length→c<n→
  Fc k n m.length i B.1 B.2.1 B.2.2.1 B.2.2.2 0 0 0 0 0 0 0 m = some (match jW k B (m.drop i) with
   |some (p,C)=>.inr (true,p.1,p.2.1,p.2.2.1,p.2.2.2.1,p.2.2.2.2.1,p.2.2.2.2.2.1,p.2.2.2.2.2.2,C.1,C.2.1,C.2.2.1,C.2.2.2)
   |none=>.inl (B.1,B.2.1,B.2.2.1,B.2.2.2,0,0,0,0,0,0,0))
 |0,i,n,e,hn=>by
  obtain⟨n,rfl⟩:∃x,n=x+1:=⟨n-1,by omega⟩
  have:i=m.length:=by omega
  subst this
  show Bf k _ m.length m.length B.1 B.2.1 B.2.2.1 B.2.2.2 0 0 0 0 0 0 0 m=_
  unfold Bf
  simp only[qC,aj (Nat.lt_irrefl _),ao,List.drop_length]
  rfl
 |c+1,i,n,e,hn=>by
  obtain⟨n,rfl⟩:∃x,n=x+1:=⟨n-1,by omega⟩
  have hi:i<m.length:=by omega
  have ih:=qSl hk h m hm c (i+1) n (by omega) (by omega)
  show Bf k _ m.length i B.1 B.2.1 B.2.2.1 B.2.2.2 0 0 0 0 0 0 0 m=_
  unfold Bf
  obtain⟨r,h1,h2,h3⟩:=IV hk h (l:=[m.getD i pd]) (by simp)
  have hf:=yNl hk h (l:=[m.getD i pd]) (by simp)
  simp only[pd] at h1 hf
  simp only[qZ,qY hi (show m.length<9223372036854775808 by omega),qC,aN,ai hi,aq,hf,h1,an]
  rw[vMg k B hi]
  unfold iJ
  simp only[pd,h1]
  cases rf B [m.getD i (0,(0,(0,(0,(0,(0,0))))))] with
  |false=>
   simp only[eC,aq,Bool.and_false,ao]
   exact ih
  |true=>
   simp only[bd,ao,Bool.and_true]
   cases decide (r.2.2.2.2=0) with
   |false=>exact ih
   |true=>rfl
def Qf (B:BT)(x:Option (zC×BT)):Int×Int×Int×Int×Int×Int×Int×(List (Int×Int×Int))×(List (List Int))×(List Int)×(List (List Int))×Bool:=match x with
 |some (p,C)=>(p.1,p.2.1,p.2.2.1,p.2.2.2.1,p.2.2.2.2.1,p.2.2.2.2.2.1,p.2.2.2.2.2.2,C.1,C.2.1,C.2.2.1,C.2.2.2,true)
 |none=>(0,0,0,0,0,0,0,B.1,B.2.1,B.2.2.1,B.2.2.2,false)
theorem vCp {k:Nat}(hk:100<k){B:BT}(h:yM B){l:List zC}(di:l.length<k)(hl:vB l)(hd:qT l)(t:Int):IX k B.1 B.2.1 B.2.2.1 B.2.2.2 l t=some (Qf B (jW k B (wS l t))):=by
 unfold IX
 rw[yEs di hl hd]
 have IY:=yJl l t
 unfold vB at hl
 have:=qSl hk h (wS l t) (by omega) (wS l t).length 0 k (by omega) (by omega)
 have e:((0:Nat):Int)=0:=rfl
 rw[e,List.drop_zero] at this
 simp only[an]
 rw[this]
 cases jW k B (wS l t) with
 |none=>rfl
 |some x=>rfl
theorem yO2 {k:Nat}(hk:100<k)(t:Int):∀(n:Nat) (B:BT) (l r:List zC),yM B→qT l→l.length≤100→l.length<n→r.length+l.length≤1000→
  ∃(C:BT) (m done:List zC),Fe k n t l B.1 B.2.1 B.2.2.1 B.2.2.2 r=some (m,C.1,C.2.1,C.2.2.1,C.2.2.2,r++done)∧iK k t B l done C m∧yM C∧C.1.length=B.1.length∧List.Sublist m l
 |0,_,_,_,_,_,_,h,_=>absurd h (Nat.not_lt_zero _)
 |n+1,B,l,r,hb,hd,hl,hn,hr=>by
  have h1:=vCp hk hb (l:=l) (by omega) (by show l.length≤1000;omega) hd t
  cases hx:jW k B (wS l t) with
  |none=>
   rw[hx] at h1
   refine⟨B,l,[],?_,.stop hx,hb,rfl,List.Sublist.refl _⟩
   show Bg k _ t l B.1 B.2.1 B.2.2.1 B.2.2.2 r=_
   unfold Bg
   rw[h1]
   simp only[an,Qf,eC,aq,List.append_nil]
  |some x=>
   obtain⟨p,C⟩:=x
   rw[hx] at h1
   obtain⟨hp,hg⟩:=Fa hx
   have C8:=IW hp
   obtain⟨xU,pJ⟩:=Be C8
   obtain⟨qn,bW⟩:=Bd hk hb (by simp) hg
   obtain⟨D,m,done,g1,g3,g4,g5,g6⟩:=yO2 hk t n C (jI l p.1) (r++[p]) qn (List.Pairwise.sublist pJ hd) (by omega) (by omega) (by rw[List.length_append];simp;omega)
   refine⟨D,m,p::done,?_,.step hx g3,g4,g5.trans bW,g6.trans pJ⟩
   show Bg k _ t l B.1 B.2.1 B.2.2.1 B.2.2.2 r=_
   unfold Bg
   rw[h1]
   simp only[an,Qf,bd,ao,v8 (show l.length<k by omega) (show vB l by show l.length≤1000;omega),tf (show r.length≤1000 by omega),aq]
   rw[List.append_cons r p done,←g1]
   rfl
theorem yYr {k:Nat}(hk:200≤k){B:BT}(hb:yM B){l:List zC}(hd:qT l)(hl:l.length≤100)(t:Int):
  ∃(C:BT) (m done:List zC),IZ k B.1 B.2.1 B.2.2.1 B.2.2.2 l t=some (C.1,C.2.1,C.2.2.1,C.2.2.2,m,done)∧iK k t B l done C m∧yM C∧C.1.length=B.1.length∧List.Sublist m l:=by
 obtain⟨C,m,done,h1,h3⟩:=yO2 (show 100<k by omega) t k B l [] hb hd hl (by omega) (by simp;omega)
 refine⟨C,m,done,?_,h3⟩
 unfold IZ
 rw[h1]
 rfl
def oQ (p q:zC):Bool:=decide (q.2.1=p.2.2.1)&&(decide (q.2.2.1=p.2.1)&& !decide (p.2.1≥q.2.1))
def oR (k:Nat)(B:BT)(p:zC):List zC→Option (zC×BT)
 |[]=>none
 |q::l=>match(bif oQ p q then iJ k B [p,q] else none) with
  |some C=>some (q,C)
  |none=>oR k B p l
def tp (k:Nat)(B:BT)(m:List zC):List zC→Option (zC×zC×BT)
 |[]=>none
 |p::l=>match oR k B p m with
  |some (q,C)=>some (p,q,C)
  |none=>tp k B m l
theorem Qg {k:Nat}{B C:BT}{p q:zC}:∀{l:List zC},oR k B p l=some (q,C)→q∈l∧oQ p q=true∧iJ k B [p,q]=some C
 |[],h=>by cases h
 |r::l,h=>by
  unfold oR at h
  cases hd:oQ p r with
  |false=>
   rw[hd] at h
   have:=Qg (l:=l) h
   exact⟨List.mem_cons_of_mem _ this.1,this.2⟩
  |true=>
   rw[hd] at h
   simp only[aq] at h
   cases hg:iJ k B [p,r] with
   |some D=>
    rw[hg] at h
    cases h
    exact⟨List.mem_cons_self ..,hd,hg⟩
   |none=>
    rw[hg] at h
    have:=Qg (l:=l) h
    exact⟨List.mem_cons_of_mem _ this.1,this.2⟩
theorem I1 {k:Nat}{B C:BT}{p q:zC}{m:List zC}:∀{l:List zC},tp k B m l=some (p,q,C)→p∈l∧q∈m∧oQ p q=true∧iJ k B [p,q]=some C
 |[],h=>by cases h
 |r::l,h=>by
  unfold tp at h
  cases hq:oR k B r m with
  |some x=>
   obtain⟨y,D⟩:=x
   rw[hq] at h
   cases h
   exact⟨List.mem_cons_self ..,Qg hq⟩
  |none=>
   rw[hq] at h
   have:=I1 (l:=l) h
   exact⟨List.mem_cons_of_mem _ this.1,this.2⟩
theorem yEq {α:Type}{l:List α}{i:Nat}(h:i<l.length)(d:α):l.getD i d=l[i]:=by
 rw[List.getD_eq_getElem?_getD,List.getElem?_eq_getElem h];rfl
theorem ySu (k:Nat)(B:BT)(p:zC){m:List zC}{i:Nat}(hi:i<m.length):oR k B p (m.drop i)=match(bif oQ p (m.getD i pd) then iJ k B [p,m.getD i pd] else none) with
  |some C=>some (m.getD i pd,C)
  |none=>oR k B p (m.drop (i+1)):=by
 rw[List.drop_eq_getElem_cons hi,yEq hi]
 rfl
theorem vJw (k:Nat)(B:BT)(r:List zC){m:List zC}{i:Nat}(hi:i<m.length):tp k B r (m.drop i)=match oR k B (m.getD i pd) r with
  |some (q,C)=>some (m.getD i pd,q,C)
  |none=>tp k B r (m.drop (i+1)):=by
 rw[List.drop_eq_getElem_cons hi,yEq hi]
 rfl
def fE (k:Nat)(B:BT)(l:List zC)(t:Int):Option (zC×zC×BT):=tp k B (wS l t) (wS l t)
theorem yXq {l:List zC}{x:Nat}{q:zC}(hx:x<l.length)(h:q∈l)(bc:q≠l.getD x pd):q∈yU l x:=by
 unfold yU
 have e:=EX l x pd hx
 rw[e] at h
 rw[List.mem_append,List.mem_cons] at h
 rw[List.mem_append]
 rcases h with h|h|h
 ·exact .inl h
 ·exact absurd h bc
 ·exact .inr h
theorem qT.eq_of {l:List zC}(h:qT l){p q:zC}(hp:p∈l)(hq:q∈l)(e:p.1=q.1):p=q:=by
 obtain⟨i,hi,ei⟩:=List.getElem_of_mem hp
 obtain⟨j,hj,ej⟩:=List.getElem_of_mem hq
 have hl:=List.pairwise_iff_getElem.1 h
 by_cases c:i<j
 ·exact absurd (by rw[ei,ej];exact e) (hl i j hi hj c)
 ·by_cases c':j<i
  ·exact absurd (by rw[ei,ej];exact e.symm) (hl j i hj hi c')
  ·have:i=j:=by omega
   subst this
   rw[←ei,←ej]
theorem Qh {l:List zC}{p q:zC}(hp:p∈l)(hq:q∈l)(bc:q.1≠p.1):q∈jI l p.1:=by
 obtain⟨x,hx⟩:=PZ hp
 unfold jI nx
 rw[hx]
 have:=lR hx
 exact yXq this.1 hq (fun e=>bc (by rw[e];exact this.2))
def wc (l:List zC)(p q:zC):List zC:=jI (jI l p.1) q.1
theorem I2 {k:Nat}{B C:BT}{l:List zC}{t:Int}{p q:zC}(h:fE k B l t=some (p,q,C)):p∈l∧q∈l∧oQ p q=true∧iJ k B [p,q]=some C:=by
 obtain⟨h1,h2,h3⟩:=I1 h
 exact⟨IW h1,IW h2,h3⟩
theorem yNy {l:List zC}(hd:qT l){p q:zC}(hp:p∈l)(hq:q∈l)(h:oQ p q=true):q.1≠p.1:=by
 intro e
 have:=hd.eq_of hq hp e
 subst this
 unfold oQ at h
 simp at h
theorem I3 {l:List zC}(hd:qT l){p q:zC}(hp:p∈l)(hq:q∈l)(h:oQ p q=true):(wc l p q).length+2=l.length∧List.Sublist (wc l p q) l:=by
 obtain⟨h1,h2⟩:=Be hp
 obtain⟨h3,h4⟩:=Be (Qh hp hq (yNy hd hp hq h))
 unfold wc
 exact⟨by omega,h4.trans h2⟩
inductive jS (k:Nat) (t:Int):BT→List zC→List zC→BT→List zC→Prop
 |stop {B:BT} {l:List zC} (h:fE k B l t=none):jS k t B l [] B l
 |step {B C D:BT} {l m done:List zC} {p q:zC} (h:fE k B l t=some (p,q,C)) (h':jS k t C (wc l p q) done D m):jS k t B l (p::q::done) D m
theorem jS.length {k:Nat}{t:Int}{B C:BT}{l done m:List zC}(h:jS k t B l done C m)(hd:qT l):done.length+m.length=l.length∧done.length%2=0:=by
 induction h with
 |stop _=>simp
 |step h _ ih=>
  obtain⟨hp,hq,tq,_⟩:=I2 h
  obtain⟨h1,h2⟩:=I3 hd hp hq tq
  have:=ih (List.Pairwise.sublist h2 hd)
  simp only[List.length_cons]
  omega
theorem jS.sub {k:Nat}{t:Int}{B C:BT}{l done m:List zC}(h:jS k t B l done C m)(hd:qT l):List.Sublist m l:=by
 induction h with
 |stop _=>exact List.Sublist.refl _
 |step h _ ih=>
  obtain⟨hp,hq,tq,_⟩:=I2 h
  obtain⟨h1,h2⟩:=I3 hd hp hq tq
  exact(ih (List.Pairwise.sublist h2 hd)).trans h2
theorem qY8 {k:Nat}(hk:100<k){B:BT}(h:yM B)(m:List zC)(hm:m.length≤1000)(p:zC)(bM cL:Int):∀c i n,i+c=m.length→c<n→
  Ff k n bM cL m.length i B.1 B.2.1 B.2.2.1 B.2.2.2 0 0 0 0 0 0 0 0 0 0 0 0 0 0 m p.1 p.2.1 p.2.2.1 p.2.2.2.1 p.2.2.2.2.1 p.2.2.2.2.2.1 p.2.2.2.2.2.2 = some (match oR k B p (m.drop i) with
   |some (q,C)=>.inr (true,p.1,p.2.1,p.2.2.1,p.2.2.2.1,p.2.2.2.2.1,p.2.2.2.2.2.1,p.2.2.2.2.2.2,q.1,q.2.1,q.2.2.1,q.2.2.2.1,q.2.2.2.2.1,q.2.2.2.2.2.1,q.2.2.2.2.2.2,C.1,C.2.1,C.2.2.1,C.2.2.2)
   |none=>.inl (bM,cL,B.1,B.2.1,B.2.2.1,B.2.2.2,0,0,0,0,0,0,0,0,0,0,0,0,0,0,m))
 |0,i,n,e,hn=>by
  obtain⟨n,rfl⟩:∃x,n=x+1:=⟨n-1,by omega⟩
  have:i=m.length:=by omega
  subst this
  show Bh k _ bM cL m.length m.length B.1 B.2.1 B.2.2.1 B.2.2.2 0 0 0 0 0 0 0 0 0 0 0 0 0 0 m p.1 p.2.1 p.2.2.1 p.2.2.2.1 p.2.2.2.2.1 p.2.2.2.2.2.1 p.2.2.2.2.2.2=_
  unfold Bh
  simp only[qC,aj (Nat.lt_irrefl _),ao,List.drop_length]
  rfl
 |c+1,i,n,e,hn=>by
  obtain⟨n,rfl⟩:∃x,n=x+1:=⟨n-1,by omega⟩
  have hi:i<m.length:=by omega
  have ih:=qY8 hk h m hm p bM cL c (i+1) n (by omega) (by omega)
  show Bh k _ bM cL m.length i B.1 B.2.1 B.2.2.1 B.2.2.2 0 0 0 0 0 0 0 0 0 0 0 0 0 0 m p.1 p.2.1 p.2.2.1 p.2.2.2.1 p.2.2.2.2.1 p.2.2.2.2.2.1 p.2.2.2.2.2.2=_
  unfold Bh
  obtain⟨r,h1,h2,h3⟩:=IV hk h (l:=[p,m.getD i pd]) (by simp)
  have hf:=yNl hk h (l:=[p,m.getD i pd]) (by simp)
  have eH:nr k B.1 B.2.1 B.2.2.1 B.2.2.2 [(p.1,p.2.1,p.2.2.1,p.2.2.2.1,p.2.2.2.2.1,p.2.2.2.2.2.1,p.2.2.2.2.2.2),m.getD i (0,(0,(0,(0,(0,(0,0))))))]=some r:=h1
  have dN:vy k B.1 B.2.1 B.2.2.1 B.2.2.2 [(p.1,p.2.1,p.2.2.1,p.2.2.2.1,p.2.2.2.2.1,p.2.2.2.2.2.1,p.2.2.2.2.2.2),m.getD i (0,(0,(0,(0,(0,(0,0))))))]=some (rf B [p,m.getD i pd]):=hf
  simp only[qZ,qY hi (show m.length<9223372036854775808 by omega),qC,aN,ai hi,aq,dN,eH,an]
  rw[ySu k B p hi]
  unfold oQ
  cases decide ((m.getD i pd).2.1=p.2.2.1) with
  |false=>exact ih
  |true=>
   cases decide ((m.getD i pd).2.2.1=p.2.1) with
   |false=>exact ih
   |true=>
    cases decide (p.2.1≥(m.getD i pd).2.1) with
    |true=>exact ih
    |false=>
     unfold iJ
     rw[h1]
     simp only[bd,eC,Bool.and_true,aq,ao]
     cases rf B [p,m.getD i pd] with
     |false=>
      simp only[eC,aq,Bool.and_false,ao]
      exact ih
     |true=>
      simp only[bd,ao,Bool.and_true]
      cases decide (r.2.2.2.2=0) with
      |false=>exact ih
      |true=>rfl
theorem yFe {k:Nat}(hk:100<k){B:BT}(h:yM B)(m:List zC)(hm:m.length≤1000)(I4:m.length<k):∀c i n,i+c=m.length→c<n→
  Fg k n m.length i B.1 B.2.1 B.2.2.1 B.2.2.2 0 0 0 0 0 0 0 0 0 0 0 0 0 0 m = some (match tp k B m (m.drop i) with
   |some (p,q,C)=>.inr (true,p.1,p.2.1,p.2.2.1,p.2.2.2.1,p.2.2.2.2.1,p.2.2.2.2.2.1,p.2.2.2.2.2.2,q.1,q.2.1,q.2.2.1,q.2.2.2.1,q.2.2.2.2.1,q.2.2.2.2.2.1,q.2.2.2.2.2.2,C.1,C.2.1,C.2.2.1,C.2.2.2)
   |none=>.inl (0,0,0,0,0,0,0,0,0,0,0,0,0,0))
 |0,i,n,e,hn=>by
  obtain⟨n,rfl⟩:∃x,n=x+1:=⟨n-1,by omega⟩
  have:i=m.length:=by omega
  subst this
  show Bi k _ m.length m.length B.1 B.2.1 B.2.2.1 B.2.2.2 0 0 0 0 0 0 0 0 0 0 0 0 0 0 m=_
  unfold Bi
  simp only[qC,aj (Nat.lt_irrefl _),ao,List.drop_length]
  rfl
 |c+1,i,n,e,hn=>by
  obtain⟨n,rfl⟩:∃x,n=x+1:=⟨n-1,by omega⟩
  have hi:i<m.length:=by omega
  have ih:=yFe hk h m hm I4 c (i+1) n (by omega) (by omega)
  show Bi k _ m.length i B.1 B.2.1 B.2.2.1 B.2.2.2 0 0 0 0 0 0 0 0 0 0 0 0 0 0 m=_
  unfold Bi
  have ey:=qY8 hk h m hm (m.getD i pd) m.length i m.length 0 k (by omega) I4
  have e0:((0:Nat):Int)=0:=rfl
  rw[e0,List.drop_zero] at ey
  simp only[pd] at ey
  simp only[qZ,qC,aN,ai hi,aq]
  rw[ey]
  rw[vJw k B m hi]
  simp only[pd]
  cases oR k B (m.getD i (0,(0,(0,(0,(0,(0,0))))))) m with
  |none=>
   simp only[an,qY hi (show m.length<9223372036854775808 by omega)]
   exact ih
  |some x=>rfl
def Qi (x:Option (zC×zC×BT)):Int×Int×Int×Int×Int×Int×Int×Int×Int×Int×Int×Int×Int×Int×(List (Int×Int×Int))×(List (List Int))×(List Int)×(List (List Int))×Bool:=match x with
 |some (p,q,C)=>(p.1,p.2.1,p.2.2.1,p.2.2.2.1,p.2.2.2.2.1,p.2.2.2.2.2.1,p.2.2.2.2.2.2,q.1,q.2.1,q.2.2.1,q.2.2.2.1,q.2.2.2.2.1,q.2.2.2.2.2.1,q.2.2.2.2.2.2,C.1,C.2.1,C.2.2.1,C.2.2.2,true)
 |none=>(0,0,0,0,0,0,0,0,0,0,0,0,0,0,[],[],[],[],false)
theorem vF5 {k:Nat}(hk:100<k){B:BT}(h:yM B){l:List zC}(di:l.length<k)(hl:vB l)(hd:qT l)(t:Int):I5 k B.1 B.2.1 B.2.2.1 B.2.2.2 l t=some (Qi (fE k B l t)):=by
 unfold I5 fE
 rw[yEs di hl hd]
 have IY:=yJl l t
 unfold vB at hl
 have:=yFe hk h (wS l t) (by omega) (by omega) (wS l t).length 0 k (by omega) (by omega)
 have e:((0:Nat):Int)=0:=rfl
 rw[e,List.drop_zero] at this
 simp only[an]
 rw[this]
 cases tp k B (wS l t) (wS l t) with
 |none=>rfl
 |some x=>rfl
theorem yTt {k:Nat}(hk:3≤k)(t:Int)(l:List zC)(hl:l.length≤1000)(qi:l.length<k)(C:BT)(r:List zC)(hr:r.length≤900)(p q:zC):
  rj k k t l 2 0 C.1 C.2.1 C.2.2.1 C.2.2.2 r [p,q]=some (t,wc l p q,C.1,C.2.1,C.2.2.1,C.2.2.2,r++[p,q]):=by
 obtain⟨n,rfl⟩:∃n,k=n+3:=⟨k-3,by omega⟩
 have h1:=v8 qi (show vB l from hl) p.1
 have xU:(jI l p.1).length≤l.length:=by
  unfold jI nx
  cases hp:wL l p.1 with
  |none=>exact Nat.le_refl _
  |some x=>exact List.Sublist.length_le (qz l x)
 have h2:=v8 (k:=n+3) (l:=jI l p.1) (by omega) (show(jI l p.1).length≤1000 by omega) q.1
 have e1:zX (r.length+1) 56=true:=tf (by omega)
 have e2:zX ((r++[p]).length+1) 56=true:=tf (by rw[List.length_append];simp;omega)
 show tt (n+3) (rj (n+3) (n+2)) t l 2 0 C.1 C.2.1 C.2.2.1 C.2.2.2 r [p,q]=_
 unfold tt
 have g0:[p,q].getD (Int.toNat 0) (0,(0,(0,(0,(0,(0,0))))))=p:=rfl
 have b0:zE 0 [p,q].length=true:=rfl
 have d0:decide ((0:Int)<2)=true:=rfl
 have w0:zA (0+1)=1:=by decide
 rw[d0,b0,g0,h1]
 simp only[aq,an,e1,w0]
 show tt (n+3) (rj (n+3) (n+1)) t (jI l p.1) 2 1 C.1 C.2.1 C.2.2.1 C.2.2.2 (r++[p]) [p,q]=_
 unfold tt
 have g1:[p,q].getD (Int.toNat 1) (0,(0,(0,(0,(0,(0,0))))))=q:=rfl
 have b1:zE 1 [p,q].length=true:=rfl
 have d1:decide ((1:Int)<2)=true:=rfl
 have w1:zA (1+1)=2:=by decide
 rw[d1,b1,g1,h2]
 simp only[aq,an,e2,w1]
 show tt (n+3) (rj (n+3) n) t (wc l p q) 2 2 C.1 C.2.1 C.2.2.1 C.2.2.2 (r++[p]++[q]) [p,q]=_
 unfold tt
 have d2:decide ((2:Int)<2)=false:=rfl
 rw[d2,List.append_assoc]
 rfl
theorem yF1 {k:Nat}(hk:100<k)(t:Int):∀(n:Nat) (B:BT) (l r:List zC),yM B→qT l→l.length≤100→l.length<n→r.length+l.length≤900→
  ∃(C:BT) (m done:List zC),Fh k n t l B.1 B.2.1 B.2.2.1 B.2.2.2 r=some (m,C.1,C.2.1,C.2.2.1,C.2.2.2,r++done)∧jS k t B l done C m∧yM C∧C.1.length=B.1.length∧List.Sublist m l
 |0,_,_,_,_,_,_,h,_=>absurd h (Nat.not_lt_zero _)
 |n+1,B,l,r,hb,hd,hl,hn,hr=>by
  have h1:=vF5 hk hb (l:=l) (by omega) (by show l.length≤1000;omega) hd t
  cases hx:fE k B l t with
  |none=>
   rw[hx] at h1
   refine⟨B,l,[],?_,.stop hx,hb,rfl,List.Sublist.refl _⟩
   show Bj k _ t l B.1 B.2.1 B.2.2.1 B.2.2.2 r=_
   unfold Bj
   rw[h1]
   simp only[an,Qi,eC,aq,List.append_nil]
  |some x=>
   obtain⟨p,q,C⟩:=x
   rw[hx] at h1
   obtain⟨hp,hq,tq,hg⟩:=I2 hx
   obtain⟨xU,pJ⟩:=I3 hd hp hq tq
   obtain⟨qn,bW⟩:=Bd hk hb (by simp) hg
   obtain⟨D,m,done,g1,g3,g4,g5,g6⟩:=yF1 hk t n C (wc l p q) (r++[p,q]) qn (List.Pairwise.sublist pJ hd) (by omega) (by omega) (by rw[List.length_append];simp;omega)
   have e2:r++[p,q]++done=r++p::q::done:=by rw[List.append_assoc];rfl
   refine⟨D,m,p::q::done,?_,.step hx g3,g4,g5.trans bW,g6.trans pJ⟩
   show Bj k _ t l B.1 B.2.1 B.2.2.1 B.2.2.2 r=_
   unfold Bj
   rw[h1]
   have hL:=yTt (k:=k) (by omega) t l (by omega) (by omega) C r (by omega) p q
   simp only[an,Qi,bd,ao]
   have hL':rj k k t l 2 0 C.1 C.2.1 C.2.2.1 C.2.2.2 r [(p.1,p.2.1,p.2.2.1,p.2.2.2.1,p.2.2.2.2.1,p.2.2.2.2.2.1,p.2.2.2.2.2.2),(q.1,q.2.1,q.2.2.1,q.2.2.2.1,q.2.2.2.2.1,q.2.2.2.2.2.1,q.2.2.2.2.2.2)]=_:=hL
   rw[hL']
   simp only[an]
   rw[g1,e2]
theorem vAh {k:Nat}(hk:200≤k){B:BT}(hb:yM B){l:List zC}(hd:qT l)(hl:l.length≤100)(t:Int):
  ∃(C:BT) (m done:List zC),I6 k B.1 B.2.1 B.2.2.1 B.2.2.2 l t=some (C.1,C.2.1,C.2.2.1,C.2.2.2,m,done)∧jS k t B l done C m∧yM C∧C.1.length=B.1.length∧List.Sublist m l:=by
 obtain⟨C,m,done,h1,h3⟩:=yF1 (show 100<k by omega) t k B l [] hb hd hl (by omega) (by simp;omega)
 refine⟨C,m,done,?_,h3⟩
 unfold I6
 rw[h1]
 rfl
def wZ (l:List zC)(f:Int):Nat:=(l.filter (jB f)).length
def nD (l:List zC)(many:List Int)(i:Nat):Bool:=
 (decide ((l.getD i pd).2.1≥0)&&decide ((l.getD i pd).2.1<(many.length:Int)))&&decide (((wZ (l.take i) (l.getD i pd).2.1:Nat):Int)<many.getD (l.getD i pd).2.1.toNat 0)
def lS (l:List zC)(many:List Int):Nat→List zC
 |0=>[]
 |i+1=>lS l many i++(bif nD l many i then[l.getD i pd] else[])
def vW (l:List zC)(many:List Int):List zC:=lS l many l.length
theorem qZa (l:List zC)(many:List Int):∀N,N≤l.length→List.Sublist (lS l many N) (l.take N)
 |0,_=>by simp[lS]
 |N+1,h=>by
  rw[←jK l N pd h]
  unfold lS
  apply List.Sublist.append (qZa l many N (by omega))
  cases nD l many N<;>simp
theorem Bk (l:List zC)(many:List Int):List.Sublist (vW l many) l:=by
 have:=qZa l many l.length (Nat.le_refl _)
 rwa [List.take_length] at this
def rk (v w:List Int):Prop:=v.length=w.length∧∀i,i<w.length→v.getD i 0≤w.getD i 0
def fO (B:BT)(l:List zC):List Int:=vr B.1 B.2.1 B.2.2.1 B.2.2.2 l
def jO (s:List Int)(m:List Int):List Int:=s.foldl (fun m i=>m.set i.toNat (m.getD i.toNat 0-1)) m
theorem we:∀(s m:List Int),(jO s m).length=m.length
 |[],_=>rfl
 |i::s,m=>by
  show(jO s (m.set i.toNat (m.getD i.toNat 0-1))).length=_
  rw[we s,List.length_set]
theorem yFu:∀(s:List Nat) (m:List Int),s.Nodup→(∀i∈s,i<m.length)→∀j,(jO (s.map fun(x:Nat)=>(x:Int)) m).getD j 0=m.getD j 0-(if j∈s then 1 else 0)
 |[],m,_,_,j=>by simp[jO]
 |i::s,m,hs,hi,j=>by
  show(jO (s.map fun(x:Nat)=>(x:Int)) (m.set ((i:Int)).toNat (m.getD ((i:Int)).toNat 0-1))).getD j 0=_
  rw[aN,yFu s _ (List.nodup_cons.1 hs).2 (fun x hx=>by rw[List.length_set];exact hi x (List.mem_cons_of_mem _ hx)),wJ]
  have h1:=hi i (List.mem_cons_self ..)
  have h2:=(List.nodup_cons.1 hs).1
  by_cases c:i=j
  ·subst c
   rw[if_pos ⟨rfl,h1⟩,if_neg h2,if_pos (List.mem_cons_self ..)]
   omega
  ·rw[if_neg (fun e=>c e.1)]
   by_cases d:j∈s
   ·rw[if_pos d,if_pos (List.mem_cons_of_mem _ d)]
   ·rw[if_neg d,if_neg (fun e=>by rcases List.mem_cons.1 e with e|e;exact c e.symm;exact d e)]
def oS (B:BT)(l:List zC)(i:Nat):Bool:=hY B.1 B.2.1 B.2.2.1 B.2.2.2 l i
theorem yBk (B:BT)(l:List zC){m:List Int}(hm:m.length=B.1.length)(j:Nat):(jO (fO B l) m).getD j 0=m.getD j 0-(if j<B.1.length∧oS B l j=true then 1 else 0):=by
 have:=yFu ((List.range B.1.length).filter fun i=>oS B l i) m (List.Nodup.sublist List.filter_sublist List.nodup_range) (fun i hi=>by have:=(List.mem_filter.1 hi).1;rw[List.mem_range] at this;omega) j
 unfold fO vr
 rw[show(fun i=>hY B.1 B.2.1 B.2.2.1 B.2.2.2 l i)=fun i=>oS B l i from rfl,this]
 congr 1
 by_cases c:j<B.1.length∧oS B l j=true
 ·rw[if_pos c,if_pos (List.mem_filter.2 ⟨List.mem_range.2 c.1,c.2⟩)]
 ·rw[if_neg c,if_neg (fun e=>c ⟨List.mem_range.1 (List.mem_filter.1 e).1,(List.mem_filter.1 e).2⟩)]
theorem yY8 {B:BT}{l:List zC}:fO B l=[]↔∀j,j<B.1.length→oS B l j=false:=by
 unfold fO vr
 rw[List.map_eq_nil_iff,List.filter_eq_nil_iff]
 constructor
 ·intro h j hj
  have:=h j (List.mem_range.2 hj)
  simpa[oS] using this
 ·intro h i hi
  have:=h i (List.mem_range.1 hi)
  simpa[oS] using this
theorem qYn {l:List zC}{many:List Int}{p:zC}:∀{N:Nat},p∈lS l many N→∃i,i<N∧l.getD i pd=p∧nD l many i=true
 |0,h=>by cases h
 |N+1,h=>by
  unfold lS at h
  rw[List.mem_append] at h
  rcases h with h|h
  ·obtain⟨i,h1,h2⟩:=qYn h
   exact⟨i,by omega,h2⟩
  ·cases hh:nD l many N with
   |true=>
    rw[hh] at h
    simp only[aq,List.mem_singleton] at h
    exact⟨N,by omega,h.symm,hh⟩
   |false=>
    rw[hh] at h
    cases h
theorem vMs {B:BT}{l:List zC}(hl:∀q∈l,yS B.1.length q){m:List Int}{j:Nat}(h:oS B (vW l m) j=true):1≤m.getD j 0:=by
 unfold oS hY at h
 rw[bU,Bool.not_eq_true'] at h
 have hn:=yAt (n:=B.1.length) (l:=vW l m) (fun q hq=>hl q ((Bk l m).subset hq)) j
 rw[h.1] at hn
 obtain⟨x,hx,he⟩:=IC.1 hn
 have hf:((vW l m).getD x pd).2.1=(j:Int):=by simpa using he
 obtain⟨i,h1,h2,h3⟩:=qYn (wY (d:=pd) hx)
 unfold nD at h3
 have h2':(l.getD i pd)=(vW l m).getD x pd:=h2
 rw[h2',hf,aN] at h3
 rw[bU,bN] at h3
 omega
inductive kV (B:BT) (l:List zC):List Int→List Int→Nat→Prop
 |stop {m:List Int} (h:fO B (vW l m)=[]):kV B l m m 0
 |step {m f:List Int} {n:Nat} (h:fO B (vW l m)≠[]) (h':kV B l (jO (fO B (vW l m)) m) f n):kV B l m f (n+1)
theorem vFu {B:BT}{l:List zC}{m:List Int}(hm:m.length=B.1.length):rk (jO (fO B l) m) m:=by
 refine⟨we _ _,fun i hi=>?_⟩
 rw[yBk B l hm]
 split<;>omega
theorem rk.trans {u v w:List Int}(h:rk u v)(h':rk v w):rk u w:=⟨h.1.trans h'.1,fun i hi=>Int.le_trans (h.2 i (by have:=h'.1;omega)) (h'.2 i hi)⟩
theorem rk.refl (v:List Int):rk v v:=⟨rfl,fun _ _=>Int.le_refl _⟩
theorem kV.le {B:BT}{l:List zC}{m f:List Int}{n:Nat}(h:kV B l m f n)(hm:m.length=B.1.length):rk f m:=by
 induction h with
 |stop _=>exact rk.refl _
 |step _ _ ih=>exact(ih ((we _ _).trans hm)).trans (vFu hm)
theorem kV.final {B:BT}{l:List zC}{m f:List Int}{n:Nat}(h:kV B l m f n):fO B (vW l f)=[]:=by
 induction h with
 |stop h=>exact h
 |step _ _ ih=>exact ih
def oT (m:List Int):Prop:=∀i,0≤m.getD i 0
theorem Qj {B:BT}{l:List zC}(hl:∀q∈l,yS B.1.length q){m:List Int}(hm:m.length=B.1.length)(h0:oT m):oT (jO (fO B (vW l m)) m):=by
 intro i
 rw[yBk B _ hm]
 have:=h0 i
 split
 ·rename_i c
  have:=vMs hl c.2
  omega
 ·omega
theorem kV.nonneg {B:BT}{l:List zC}(hl:∀q∈l,yS B.1.length q){m f:List Int}{n:Nat}(h:kV B l m f n)(hm:m.length=B.1.length)(h0:oT m):oT f:=by
 induction h with
 |stop _=>exact h0
 |step _ _ ih=>exact ih ((we _ _).trans hm) (Qj hl hm h0)
def kW (m:List Int):Int:=zT (fun x=>x) m
theorem yH6:∀(m:List Int) (i:Nat) (x:Int),i<m.length→kW (m.set i x)=kW m-m.getD i 0+x
 |[],i,x,h=>absurd h (Nat.not_lt_zero _)
 |y::m,0,x,_=>by
  show x+kW m=y+kW m-y+x
  omega
 |y::m,i+1,x,h=>by
  show y+kW (m.set i x)=y+kW m-m.getD i 0+x
  rw[yH6 m i x (by simpa using h)]
  omega
theorem yC8:∀(s m:List Int),(∀i∈s,0≤i∧i<(m.length:Int))→kW (jO s m)=kW m-s.length
 |[],m,_=>by simp[jO]
 |i::s,m,h=>by
  have hi:=h i (List.mem_cons_self ..)
  show kW (jO s (m.set i.toNat (m.getD i.toNat 0-1)))=_
  rw[yC8 s _ (fun x hx=>by rw[List.length_set];exact h x (List.mem_cons_of_mem _ hx)),yH6 _ _ _ (by omega)]
  simp only[List.length_cons]
  omega
theorem yNo {B:BT}{l:List zC}:∀i∈fO B l,0≤i∧i<(B.1.length:Int):=by
 intro i hi
 obtain⟨x,hx,rfl⟩:=List.mem_map.1 hi
 have:=List.mem_range.1 (List.mem_filter.1 hx).1
 omega
theorem yLq:∀{m:List Int},oT m→0≤kW m
 |[],_=>Int.le_refl 0
 |x::m,h=>by
  have h1:0≤x:=h 0
  have h2:=yLq (m:=m) (fun i=>h (i+1))
  show 0≤x+kW m
  omega
theorem yOo {B:BT}{l:List zC}(hl:∀q∈l,yS B.1.length q):∀(N:Nat) (m:List Int),m.length=B.1.length→oT m→kW m≤N→∃f n,kV B l m f n∧n≤N
 |N,m,hm,h0,hN=>by
  by_cases c:fO B (vW l m)=[]
  ·exact⟨m,0,.stop c,Nat.zero_le _⟩
  ·have ht:=yC8 (fO B (vW l m)) m (by rw[hm];exact yNo)
   have hp:0<(fO B (vW l m)).length:=List.length_pos_iff.2 c
   have h1:=Qj hl hm h0
   have h2:=yLq h1
   obtain⟨N,rfl⟩:∃x,N=x+1:=⟨N-1,by omega⟩
   obtain⟨f,n,h3,h4⟩:=yOo hl N _ ((we _ _).trans hm) h1 (by omega)
   exact⟨f,n+1,.step c h3,by omega⟩
theorem yMi (l:List zC)(many:List Int):∀N,(lS l many N).length≤N
 |0=>Nat.le_refl _
 |N+1=>by
  unfold lS
  rw[List.length_append]
  have:=yMi l many N
  cases nD l many N<;>simp<;>omega
theorem vKr (l:List zC)(i:Nat)(hi:i<l.length)(f:Int):wZ (l.take (i+1)) f=wZ (l.take i) f+(if(l.getD i pd).2.1=f then 1 else 0):=by
 unfold wZ
 rw[EV _ _ _ pd hi,List.length_append]
 unfold jB
 by_cases c:(l.getD i pd).2.1=f
 ·rw[if_pos c,ai c];rfl
 ·rw[if_neg c,aj c];rfl
def iL (l:List zC)(n:Nat):List Int:=(List.range n).map fun(i:Nat)=>((wZ l i:Nat):Int)
theorem yZk (l:List zC)(i:Nat):iL l (i+1)=iL l i++[((wZ l i:Nat):Int)]:=by
 unfold iL
 rw[List.range_succ,List.map_append];rfl
theorem Bl (l:List zC)(n:Nat):(iL l n).length=n:=by
 unfold iL;simp
theorem Qk:∀(s m:List Int) (i:Nat),m.getD i 0-s.length≤(jO s m).getD i 0∧(jO s m).getD i 0≤m.getD i 0
 |[],m,i=>by simp[jO]
 |x::s,m,i=>by
  have h:=Qk s (m.set x.toNat (m.getD x.toNat 0-1)) i
  rw[wJ] at h
  have e:jO (x::s) m=jO s (m.set x.toNat (m.getD x.toNat 0-1)):=rfl
  rw[e,List.length_cons]
  by_cases c:x.toNat=i∧x.toNat<m.length
  ·rw[if_pos c,c.1] at h
   rw[c.1]
   omega
  ·rw[if_neg c] at h
   omega
theorem yT6 (s m:List Int)(i:Nat)(hi:i<s.length):jO (s.take (i+1)) m=(jO (s.take i) m).set (s.getD i 0).toNat ((jO (s.take i) m).getD (s.getD i 0).toNat 0-1):=by
 unfold jO
 rw[←jK s i 0 hi,List.foldl_append]
 rfl
theorem yGm (g:Nat→Int):∀n,zT (fun x=>x) ((List.range n).map g)=qO g n
 |0=>rfl
 |n+1=>by
  rw[List.range_succ,List.map_append,kp,yGm g n]
  show qO g n+(g n+0)=qO g n+g n
  omega
theorem yYc (l:List zC)(f:Int):((wZ l f:Nat):Int)=zT (fun p:zC=>if p.2.1=f then 1 else 0) l:=by
 induction l with
 |nil=>rfl
 |cons p l ih=>
  unfold wZ jB at*
  show _=(if p.2.1=f then(1:Int) else 0)+zT _ l
  rw[←ih,List.filter_cons]
  by_cases c:p.2.1=f
  ·rw[if_pos c,ai c,if_pos rfl,List.length_cons];omega
  ·rw[if_neg c,aj c,if_neg (by simp)];omega
theorem vHj (l:List zC)(n:Nat):kW (iL l n)≤l.length:=by
 unfold kW iL
 rw[yGm (fun i:Nat=>((wZ l i:Nat):Int)) n,lN (h:=fun j=>zT (fun p:zC=>if p.2.1=(j:Int) then 1 else 0) l) (fun j _=>yYc l j),HV]
 have := (za (A := 1) (l := l) (g := fun p : zC => qO (fun j => if p.2.1 = (j : Int) then 1 else 0) n) (fun p _=>by
  by_cases c:0≤p.2.1
  ·obtain⟨f,hf⟩:∃f:Nat,p.2.1=f:=⟨p.2.1.toNat,by omega⟩
   have e:qO (fun j=>if p.2.1=(j:Int) then(1:Int) else 0) n=qO (fun j=>if j=f then 1 else 0) n:=lN fun j _=>by
    rw[hf]
    by_cases d:j=f
    ·rw[if_pos d,if_pos (by omega)]
    ·rw[if_neg d,if_neg (by omega)]
   rw[e,vm]
   split<;>omega
  ·have e:qO (fun j=>if p.2.1=(j:Int) then(1:Int) else 0) n=qO (fun _=>0) n:=lN fun j _=>if_neg (by omega)
   rw[e,O1]
   omega)).2
 omega
theorem yDq (l:List zC)(n i:Nat):(iL l n).getD i 0=if i<n then((wZ l i:Nat):Int) else 0:=by
 unfold iL
 by_cases c:i<n
 ·rw[if_pos c,List.getD_eq_getElem?_getD,List.getElem?_eq_getElem (by simpa using c)]
  simp
 ·rw[if_neg c,List.getD_eq_getElem?_getD,List.getElem?_eq_none (by simpa using c)]
  rfl
theorem yS2 (l:List zC)(f:Int):wZ l f≤l.length:=List.length_filter_le _ _
theorem Ql {l:List zC}(hl:l.length≤1000)(n:Nat):oT (iL l n)∧∀i,(iL l n).getD i 0≤1000:=by
 refine⟨fun i=>?_,fun i=>?_⟩
 ·rw[yDq];split<;>omega
 ·rw[yDq]
  have:=yS2 l i
  split<;>omega
theorem Qm {B:BT}{l:List zC}(hl:∀q∈l,yS B.1.length q)(dB:l.length≤64)(m:List Int):wF B.1.length (vW l m):=
 ⟨fun p hp=>hl p ((Bk l m).subset hp),by have:=(Bk l m).length_le;omega⟩
def wD (l:List zC)(t:Int):List zC:=l.filter (nu t)
theorem I7 {n:Nat}{l:List zC}{t:Int}(h:∀q∈l,yS n q):∀q∈wD l t,yS n q:=fun q hq=>h q (List.mem_filter.1 hq).1
theorem Fi (l:List zC)(t:Int):(wD l t).length≤l.length:=List.length_filter_le _ _
theorem yGk {B:BT}(hb:yM B){l:List zC}(hl:∀q∈l,yS B.1.length q)(dB:l.length≤64)(t:Int):
  ∃f n,kV B (wD l t) (iL (wD l t) B.1.length) f n∧n≤(wD l t).length:=by
 have h1:=Ql (l:=wD l t) (by have:=Fi l t;omega) B.1.length
 have h2:=vHj (wD l t) B.1.length
 exact yOo (I7 hl) (wD l t).length _ (Bl _ _) h1.1 (by omega)
def oU (l:List zC)(hs:List zC):List zC:=hs.foldl (fun l p=>jI l p.1) l
theorem ySk (l:List zC)(id:Int):(jI l id).length≤l.length∧List.Sublist (jI l id) l:=by
 unfold jI nx
 cases wL l id with
 |none=>exact⟨Nat.le_refl _,List.Sublist.refl _⟩
 |some x=>exact⟨(qz l x).length_le,qz l x⟩
theorem Qn:∀(hs l:List zC),(oU l hs).length≤l.length∧List.Sublist (oU l hs) l
 |[],l=>⟨Nat.le_refl _,List.Sublist.refl _⟩
 |p::hs,l=>by
  obtain⟨h1,h2⟩:=Qn hs (jI l p.1)
  obtain⟨h3,h4⟩:=ySk l p.1
  exact⟨Nat.le_trans h1 h3,h2.trans h4⟩
theorem vL3 (l hs:List zC)(i:Nat)(hi:i<hs.length):oU l (hs.take (i+1))=jI (oU l (hs.take i)) (hs.getD i pd).1:=by
 unfold oU
 rw[←jK hs i pd hi,List.foldl_append]
 rfl
def I8 (B:BT)(l hs:List zC)(r:List qM×List (List Int)×List Int×List (List Int)×Int):(List (Int×Int×Int))×(List (List Int))×(List Int)×(List (List Int))×(List zC)×(List zC):=
 bif !(decide (r.2.2.2.2=0)) then(B.1,B.2.1,B.2.2.1,B.2.2.2,l,[]) else(r.1,r.2.1,r.2.2.1,r.2.2.2.1,oU l hs,hs)
theorem Qo {k:Nat}{l:List zC}(hk:l.length<k)(hl:vB l){many:List Int}(h0:oT many)(hm:∀i,many.getD i 0≤1000)(IY:many.length≤1000):Bm k l many=some (vW l many):=by
 unfold vB at hl
 unfold Bm Qp Qq
 rw[yF (by omega) (by omega)]
 simp only[aq,an]
 obtain ⟨s', h1, h2, h3, h4⟩ := vY (L := fun n i (s : List Int × List zC) => Bn k n l l.length i s.1 s.2) (N := l.length) (fun s => s) (fun i s => s.1.length = many.length ∧ (∀ f : Nat, f < many.length → s.1.getD f 0 = if many.getD f 0 ≤ (wZ (l.take i) f : Nat) then 0 else many.getD f 0 - (wZ (l.take i) f : Nat)) ∧ s.2 = lS l many i) (fun n s _=>by
  show Bo k _ l l.length l.length s.1 s.2=_
  unfold Bo
  simp only [qC, aj (Nat.lt_irrefl _), ao]) (fun n i s hi hs=>by
  obtain⟨s1,s2,s3⟩:=hs
  have iz:s.2.length≤i:=by rw[s3];exact yMi l many i
  show∃s',Bo k _ l l.length i s.1 s.2=_∧_
  unfold Bo Qr
  simp only[qZ,qY hi (show l.length<9223372036854775808 by omega),qC,aN,ai hi,aq,tf (show s.2.length≤1000 by omega)]
  have lJ:=fun f=>vKr l i hi f
  have lI:∀f:Nat,f<many.length→(l.getD i pd).2.1≠(f:Int)→(if many.getD f 0≤(wZ (l.take (i+1)) f:Nat) then(0:Int) else many.getD f 0-(wZ (l.take (i+1)) f:Nat))=if many.getD f 0≤(wZ (l.take i) f:Nat) then 0 else many.getD f 0-(wZ (l.take i) f:Nat):=by
   intro f hf bc
   rw[lJ f,if_neg bc,Nat.add_zero]
  have skip:nD l many i=false→(∀f:Nat,f<many.length→(l.getD i pd).2.1=(f:Int)→many.getD f 0≤(wZ (l.take i) f:Nat))→(s.1.length=many.length∧(∀f:Nat,f<many.length→s.1.getD f 0=if many.getD f 0≤(wZ (l.take (i+1)) f:Nat) then 0 else many.getD f 0-(wZ (l.take (i+1)) f:Nat))∧s.2=lS l many (i+1)):=by
   intro hh hz
   refine⟨s1,fun f hf=>?_,?_⟩
   ·by_cases c:(l.getD i pd).2.1=(f:Int)
    ·have:=hz f hf c
     rw[s2 f hf,if_pos this,lJ f,if_pos c,if_pos (by omega)]
    ·rw[lI f hf c,s2 f hf]
   ·show _=lS l many i++_
    rw[hh,s3];simp
  cases e1:decide ((l.getD i pd).2.1<0) with
  |true=>
   refine⟨s,rfl,skip ?_ ?_⟩
   ·unfold nD
    rw[bN] at e1
    rw[aj (show¬(l.getD i pd).2.1≥0 by omega)];rfl
   ·intro f hf c
    rw[bN] at e1
    omega
  |false=>
   cases e2:decide ((l.getD i pd).2.1≥((s.1.length:Nat):Int)) with
   |true=>
    refine⟨s,rfl,skip ?_ ?_⟩
    ·unfold nD
     rw[bN] at e2
     rw[aj (show¬(l.getD i pd).2.1<(many.length:Int) by omega),Bool.and_false];rfl
    ·intro f hf c
     rw[bN] at e2
     omega
   |false=>
    rw[decide_eq_false_iff_not] at e1 e2
    obtain⟨f,hf⟩:∃f:Nat,(l.getD i pd).2.1=f:=⟨(l.getD i pd).2.1.toNat,by omega⟩
    have G4:f<many.length:=by omega
    have dN:(l.getD i (0,(0,(0,(0,(0,(0,0))))))).2.1=f:=hf
    simp only[ao,dN,qZ,aN,s1,ai G4,aq]
    have pR:nD l many i=decide (((wZ (l.take i) f:Nat):Int)<many.getD f 0):=by
     unfold nD
     rw[hf,ai (show(f:Int)≥0 by omega),ai (show(f:Int)<(many.length:Int) by omega),aN]
     rfl
    have kt:=s2 f G4
    cases e3:decide (s.1.getD f 0<1) with
    |true=>
     rw[bN,kt] at e3
     have hle:many.getD f 0≤(wZ (l.take i) f:Nat):=by
      by_cases c:many.getD f 0≤(wZ (l.take i) f:Nat)
      ·exact c
      ·rw[if_neg c] at e3;omega
     refine⟨s,rfl,skip (by rw[pR];exact aj (by omega)) ?_⟩
     intro g hg c
     have:g=f:=by omega
     subst this
     exact hle
    |false=>
     rw[decide_eq_false_iff_not] at e3
     have hgt:¬many.getD f 0≤(wZ (l.take i) f:Nat):=by
      intro c
      rw[kt,if_pos c] at e3
      omega
     rw[if_neg hgt] at kt
     have vd:=hm f
     have hw:zA (s.1.getD f 0-1)=s.1.getD f 0-1:=yA (by omega) (by omega)
     refine⟨(s.1.set f (s.1.getD f 0-1),s.2++[l.getD i pd]),?_,?_,?_,?_⟩
     ·simp only[ao,an,aq,hw]
     ·rw[List.length_set];exact s1
     ·intro g hg
      rw[wJ]
      by_cases c:f=g
      ·subst c
       rw[if_pos ⟨rfl,by omega⟩,lJ f,if_pos hf,kt]
       by_cases d:many.getD f 0≤((wZ (l.take i) f+1:Nat):Int)
       ·rw[if_pos d];omega
       ·rw[if_neg d];omega
      ·rw[if_neg (fun e=>c e.1),lI g hg (by omega)]
       exact s2 g hg
     ·show s.2++[l.getD i pd]=lS l many i++_
      rw[pR,ai (by omega),s3];rfl) (s:=(many,[])) hk ⟨rfl,fun f hf=>by
   have:(wZ (l.take 0) f:Nat)=0:=rfl
   have h0f:=h0 f
   rw[this]
   by_cases c:many.getD f 0≤((0:Nat):Int)
   ·rw[if_pos c]
    show many.getD f 0=0
    omega
   ·rw[if_neg c]
    show many.getD f 0=_
    omega,rfl⟩
 have eH:Bn k k l l.length 0 many []=some s':=h1
 rw[eH]
 simp only[an,h4]
 rfl
theorem yH9 {k:Nat}{l:List zC}(hk:l.length<k)(hl:vB l)(f:Int):Fj k l f=some (l.filter (jB f)):=by
 unfold Fj Qs
 have := yQf pd (L := fun n i s => Fk k n l l.length i f s) (jB f) id (fun n s=>by
  show Bp k _ l l.length l.length f s=_
  unfold Bp
  simp only [qC, aj (Nat.lt_irrefl _), ao]; rfl) (fun n i s hi hs=>by
  show Bp k _ l l.length i f s=_
  unfold Bp Qt
  unfold vB at hl
  simp only[qZ,qY hi (show l.length<9223372036854775808 by omega),qC,aN,ai hi,aq,tf (show s.length≤1000 by omega)]
  unfold jB
  cases h1:decide ((l.getD i pd).2.1=f)<;>rfl) hk
 rw[this]
 rfl
theorem vH4 {k:Nat}{B:BT}{l:List zC}(hk:l.length<k)(hl:vB l)(hn:B.1.length<k)(hn':B.1.length≤1000)(s7:Int):
  wg k k s7 B.1.length 0 B.1 B.2.1 B.2.2.1 B.2.2.2 [] l=some (s7,B.1,B.2.1,B.2.2.1,B.2.2.2,iL l B.1.length,l):=by
 obtain ⟨s', h1, h2⟩ := vY (L := fun n i (s : List Int) => wg k n s7 B.1.length i B.1 B.2.1 B.2.2.1 B.2.2.2 s l) (N := B.1.length) (fun s => (s7, B.1, B.2.1, B.2.2.1, B.2.2.2, s, l)) (fun i s => s = iL l i) (fun n s _=>by
  show Bq k _ s7 B.1.length B.1.length B.1 B.2.1 B.2.2.1 B.2.2.2 s l=_
  unfold Bq
  simp only [qC, aj (Nat.lt_irrefl _), ao]) (fun n i s hi hs=>by
  refine⟨_,?_,(yZk l i).symm⟩
  show Bq k _ s7 B.1.length i B.1 B.2.1 B.2.2.1 B.2.2.2 s l=_
  unfold Bq
  have hr:zX (s.length+1) 8=true:=by rw[hs,Bl];exact yF (by omega) (by omega)
  simp only[qC,ai hi,aq,yH9 hk hl,an,hr,qY hi (show B.1.length<9223372036854775808 by omega)]
  rw[hs]
  rfl) (s:=[]) hn rfl
 exact h1.trans (by rw[h2])
theorem vBe {k:Nat}{B:BT}{l:List zC}{s m:List Int}(hk:s.length<k)(hs:s.length≤1000)(ey:∀x∈s,0≤x∧x<(m.length:Int))(h0:oT m)(hm:∀i,m.getD i 0≤1000)(s7:Int):
  Br k k s7 s.length 0 B.1 B.2.1 B.2.2.1 B.2.2.2 m l s=some (s7,B.1,B.2.1,B.2.2.1,B.2.2.2,jO s m,l):=by
 obtain ⟨s', h1, h2⟩ := vY (L := fun n i (r : List Int) => Br k n s7 s.length i B.1 B.2.1 B.2.2.1 B.2.2.2 r l s) (N := s.length) (fun r => (s7, B.1, B.2.1, B.2.2.1, B.2.2.2, r, l)) (fun i r => r = jO (s.take i) m) (fun n r _=>by
  show Bt k _ s7 s.length s.length B.1 B.2.1 B.2.2.1 B.2.2.2 r l s=_
  unfold Bt
  simp only [qC, aj (Nat.lt_irrefl _), ao]) (fun n i r hi hr=>by
  refine⟨_,?_,(yT6 s m i hi).symm⟩
  show Bt k _ s7 s.length i B.1 B.2.1 B.2.2.1 B.2.2.2 r l s=_
  unfold Bt
  obtain⟨b1,b2⟩:=ey _ (wY (d:=0) hi)
  have Qu:r.length=m.length:=by rw[hr,we]
  have hb:zE (s.getD i 0) r.length=true:=fK b1 (by omega)
  have Ed:=Qk (s.take i) m (s.getD i 0).toNat
  have Ho:=h0 (s.getD i 0).toNat
  have vd:=hm (s.getD i 0).toNat
  have aV:(s.take i).length≤s.length:=List.length_take_le' _ _
  have hw:zA (r.getD (s.getD i 0).toNat 0-1)=r.getD (s.getD i 0).toNat 0-1:=by
   rw[hr]
   exact yA (by omega) (by omega)
  simp only[qC,qZ,aN,ai hi,aq,hb,hw,qY hi (show s.length<9223372036854775808 by omega)]
  rw[hr]) (s:=m) hk rfl
 have:=h1.trans (by rw[h2,List.take_length])
 exact this
theorem yWe {k:Nat}(hk:100<k){B:BT}(hb:yM B){l:List zC}(hl:∀q∈l,yS B.1.length q)(dB:l.length≤64){m f:List Int}{n:Nat}(h:kV B l m f n):
  ∀(N:Nat) (s7:Int),m.length=B.1.length→oT m→(∀i,m.getD i 0≤1000)→n<N→0≤s7→s7+n<1000000→
  Fl k N s7 B.1 B.2.1 B.2.2.1 B.2.2.2 m l=some (s7+n+1,f):=by
 induction h with
 |@stop m h=>
  intro N s7 hm h0 h1 hn hs uI
  obtain⟨N,rfl⟩:∃x,N=x+1:=⟨N-1,by omega⟩
  have oV:=hb.n6
  show Bu k _ s7 B.1 B.2.1 B.2.2.1 B.2.2.2 m l=_
  unfold Bu
  have hS:=PK hk hb (Qm hl dB m)
  have pL:vx k B.1 B.2.1 B.2.2.1 B.2.2.2 (vW l m)=some (fO B (vW l m)):=hS
  rw[Qo (by omega) (show vB l by show l.length≤1000;omega) h0 h1 (by omega)]
  simp only[an]
  rw[pL,h]
  simp only[an]
  have w:zA (s7+1)=s7+1:=yA (by omega) (by omega)
  rw[w]
  simp
 |@step m f n h h' ih=>
  intro N s7 hm h0 h1 hn hs uI
  obtain⟨N,rfl⟩:∃x,N=x+1:=⟨N-1,by omega⟩
  have oV:=hb.n6
  show Bu k _ s7 B.1 B.2.1 B.2.2.1 B.2.2.2 m l=_
  unfold Bu
  have hS:=PK hk hb (Qm hl dB m)
  have pL:vx k B.1 B.2.1 B.2.2.1 B.2.2.2 (vW l m)=some (fO B (vW l m)):=hS
  rw[Qo (by omega) (show vB l by show l.length≤1000;omega) h0 h1 (by omega)]
  simp only[an]
  rw[pL]
  simp only[an]
  have w:zA (s7+1)=s7+1:=yA (by omega) (by omega)
  have bc : decide ((((fO B (vW l m)).length : Nat) : Int) = 0) = false := aj (by
   have:=List.length_pos_iff.2 h
   omega)
  have iz:(fO B (vW l m)).length≤B.1.length:=by
   unfold fO vr
   rw[List.length_map]
   have:=List.length_filter_le (fun i=>hY B.1 B.2.1 B.2.2.1 B.2.2.2 (vW l m) i) (List.range B.1.length)
   rwa [List.length_range] at this
  rw[bc,w]
  simp only[ao]
  rw[vBe (by omega) (by omega) (by rw[hm];exact yNo) h0 h1]
  simp only[an]
  have hd0:=Qj hl hm h0
  have:=ih N (s7+1) ((we _ _).trans hm) hd0 (fun i=>by have:=(Qk (fO B (vW l m)) m i).2;have:=h1 i;omega) (by omega) (by omega) (by omega)
  rw[this]
  congr 2
  omega
theorem yT4 {k:Nat}(hk:100<k){B:BT}(hb:yM B){l:List zC}(hl:∀q∈l,yS B.1.length q)(dB:l.length≤64)(t:Int){f:List Int}{n:Nat}(hn:n≤l.length)(h:kV B (wD l t) (iL (wD l t) B.1.length) f n):
  I9 k B.1 B.2.1 B.2.2.1 B.2.2.2 l t=some (f,((n+1:Nat):Int)):=by
 have oV:=hb.n6
 have hr:=Fi l t
 have h1:=Ql (l:=wD l t) (by omega) B.1.length
 unfold I9
 rw[PO (by omega) (by show l.length≤1000;omega)]
 simp only[an]
 have e:wg k k 0 B.1.length 0 B.1 B.2.1 B.2.2.1 B.2.2.2 [] (l.filter (nu t))=_:=vH4 (k:=k) (B:=B) (l:=wD l t) (by omega) (by show(wD l t).length≤1000;omega) (by omega) (by omega) 0
 rw[e]
 simp only[an]
 rw[yWe hk hb (I7 hl) (by omega) h k 0 (Bl _ _) h1.1 h1.2 (by omega) (by omega) (by omega)]
 simp
theorem vJr {k:Nat}{C:BT}{l hs:List zC}(hl:l.length<k)(fj:l.length≤1000)(hk:hs.length<k)(hh:hs.length≤1000):
  wh k k l hs.length 0 C.1 C.2.1 C.2.2.1 C.2.2.2 hs=some (oU l hs,C.1,C.2.1,C.2.2.1,C.2.2.2,hs):=by
 obtain ⟨s', h1, h2⟩ := vY (L := fun n i (s : List zC) => wh k n s hs.length i C.1 C.2.1 C.2.2.1 C.2.2.2 hs) (N := hs.length) (fun s => (s, C.1, C.2.1, C.2.2.1, C.2.2.2, hs)) (fun i s => s = oU l (hs.take i)) (fun n s _=>by
  show Bv k _ s hs.length hs.length C.1 C.2.1 C.2.2.1 C.2.2.2 hs=_
  unfold Bv
  simp only [qC, aj (Nat.lt_irrefl _), ao]) (fun n i s hi hr=>by
  refine⟨_,?_,(vL3 l hs i hi).symm⟩
  show Bv k _ s hs.length i C.1 C.2.1 C.2.2.1 C.2.2.2 hs=_
  unfold Bv
  have iz:=(Qn (hs.take i) l).1
  rw[←hr] at iz⊢
  simp only[qC,qZ,aN,ai hi,aq,v8 (show s.length<k by omega) (show vB s by show s.length≤1000;omega),an,qY hi (show hs.length<9223372036854775808 by omega)]
  rfl) (s:=l) hk rfl
 have:=h1.trans (by rw[h2,List.take_length])
 exact this
theorem qXs {k:Nat}(hk:100<k){B:BT}(hb:yM B){l:List zC}(hl:∀q∈l,yS B.1.length q)(dB:l.length≤64)(t:Int){f:List Int}{n:Nat}(hn:n≤l.length)(h:kV B (wD l t) (iL (wD l t) B.1.length) f n)
  {r:List qM×List (List Int)×List Int×List (List Int)×Int} (hr:nr k B.1 B.2.1 B.2.2.1 B.2.2.2 (vW (wD l t) f)=some r):Bw k B.1 B.2.1 B.2.2.1 B.2.2.2 l t=some (I8 B l (vW (wD l t) f) r):=by
 have oV:=hb.n6
 have Qu:=Fi l t
 have h1:=Ql (l:=wD l t) (by omega) B.1.length
 have hle:=h.le (Bl _ _)
 have h0:=h.nonneg (I7 hl) (Bl _ _) h1.1
 have G4:f.length=B.1.length:=hle.1.trans (Bl _ _)
 have hf:∀i,f.getD i 0≤1000:=fun i=>by
  by_cases c:i<(iL (wD l t) B.1.length).length
  ·have:=hle.2 i c
   have:=h1.2 i
   omega
  ·rw[List.getD_eq_getElem?_getD,List.getElem?_eq_none (by have:=hle.1;omega)]
   show(0:Int)≤1000
   omega
 have hhl:=(Bk (wD l t) f).length_le
 unfold Bw
 rw[yT4 hk hb hl dB t hn h,PO (by omega) (by show l.length≤1000;omega)]
 simp only[an]
 have e:Bm k (l.filter (nu t)) f=_:=Qo (k:=k) (l:=wD l t) (by omega) (by show(wD l t).length≤1000;omega) h0 hf (by omega)
 rw[e]
 simp only[an]
 rw[hr]
 simp only[an]
 unfold I8
 cases decide (r.2.2.2.2=0) with
 |false=>rfl
 |true=>
  simp only[bd,ao]
  have e2:wh k k l ((List.length (vW (wD l t) f):Nat):Int) 0 r.1 r.2.1 r.2.2.1 r.2.2.2.1 (vW (wD l t) f)=_:=vJr (C:=(r.1,r.2.1,r.2.2.1,r.2.2.2.1)) (by omega) (by omega) (by omega) (by omega)
  rw[e2]
  rfl
theorem Qv {l:List zC}{x:Nat}(hx:x<l.length):List.Perm (l.getD x pd::yU l x) l:=by
 unfold yU
 have h:List.Perm (l.getD x pd::(l.take x++l.drop (x+1))) (l.take x++l.getD x pd::l.drop (x+1)):=List.perm_middle.symm
 have e:=EX l x pd hx
 rw[←e] at h
 exact h
theorem Ja {l:List zC}(hd:qT l){p:zC}(hp:p∈l):List.Perm (p::jI l p.1) l:=by
 obtain⟨x,hx⟩:=PZ hp
 have h:=lR hx
 have e:l.getD x pd=p:=hd.eq_of (wY h.1) hp h.2
 unfold jI nx
 rw[hx]
 have:=Qv h.1
 rw[e] at this
 exact this
theorem iK.perm {k:Nat}{t:Int}{B C:BT}{l done m:List zC}(h:iK k t B l done C m)(hd:qT l):List.Perm (done++m) l:=by
 induction h with
 |stop _=>exact List.Perm.refl _
 |step h _ ih=>
  have hp:=IW (Fa h).1
  exact((ih (List.Pairwise.sublist (Be hp).2 hd)).cons _).trans (Ja hd hp)
theorem jS.perm {k:Nat}{t:Int}{B C:BT}{l done m:List zC}(h:jS k t B l done C m)(hd:qT l):List.Perm (done++m) l:=by
 induction h with
 |stop _=>exact List.Perm.refl _
 |step h _ ih=>
  obtain⟨hp,hq,tq,_⟩:=I2 h
  obtain⟨h1,h2⟩:=I3 hd hp hq tq
  have gj:qT (jI _ _):=List.Pairwise.sublist (Be hp).2 hd
  have mA:=Qh hp hq (yNy hd hp hq tq)
  exact(((ih (List.Pairwise.sublist h2 hd)).cons _).cons _).trans (((Ja gj mA).cons _).trans (Ja hd hp))
theorem iK.final {k:Nat}{t:Int}{B C:BT}{l done m:List zC}(h:iK k t B l done C m):jW k C (wS m t)=none:=by
 induction h with
 |stop h=>exact h
 |step _ _ ih=>exact ih
theorem jS.final {k:Nat}{t:Int}{B C:BT}{l done m:List zC}(h:jS k t B l done C m):fE k C m t=none:=by
 induction h with
 |stop h=>exact h
 |step _ _ ih=>exact ih
theorem qT.perm {l m:List zC}(h:qT l)(hp:List.Perm m l):qT m:=(List.Perm.pairwise_iff (R:=fun p q:zC=>p.1≠q.1) (fun GK=>Ne.symm GK) hp.symm).1 h
inductive lT (k:Nat) (t:Int):BT→List zC→List zC→BT→List zC→Prop
 |stop {B C:BT} {l m d:List zC} (h1:iK k t B l d C m) (h2:fE k C m t=none):lT k t B l d C m
 |step {B C D E:BT} {l m n o d e f:List zC} (h1:iK k t B l d C m) (h2:jS k t C m e D n) (ne:e≠[]) (h':lT k t D n f E o):lT k t B l (d++e++f) E o
theorem lT.perm {k:Nat}{t:Int}{B C:BT}{l done m:List zC}(h:lT k t B l done C m)(hd:qT l):List.Perm (done++m) l:=by
 induction h with
 |stop h1 _=>exact h1.perm hd
 |@step B C D E l m n o d e f h1 h2 ne h' ih=>
  have p1:=h1.perm hd
  have Fm:=hd.perm p1
  have hm:qT m:=(List.pairwise_append.1 Fm).2.1
  have p2:=h2.perm hm
  have hn:qT n:=(List.pairwise_append.1 (hm.perm p2)).2.1
  have p3:=ih hn
  have e1:d++e++f++o=d++(e++(f++o)):=by simp
  rw[e1]
  exact((p3.append_left e).append_left d).trans ((p2.append_left d).trans p1)
theorem lT.final {k:Nat}{t:Int}{B C:BT}{l done m:List zC}(h:lT k t B l done C m):jW k C (wS m t)=none∧fE k C m t=none:=by
 induction h with
 |stop h1 h2=>exact⟨h1.final,h2⟩
 |step _ _ _ _ ih=>exact ih
theorem iK.none {k:Nat}{t:Int}{B C:BT}{l done m:List zC}(h:iK k t B l done C m)(hn:jW k B (wS l t)=none):done=[]∧C=B∧m=l:=by
 cases h with
 |stop _=>exact⟨rfl,rfl,rfl⟩
 |step h _=>rw[hn] at h;cases h
theorem jS.none {k:Nat}{t:Int}{B C:BT}{l done m:List zC}(h:jS k t B l done C m)(hn:fE k B l t=none):done=[]∧C=B∧m=l:=by
 cases h with
 |stop _=>exact⟨rfl,rfl,rfl⟩
 |step h _=>rw[hn] at h;cases h
theorem jS.nil {k:Nat}{t:Int}{B C:BT}{l m:List zC}(h:jS k t B l [] C m):fE k B l t=Option.none∧C=B∧m=l:=by
 cases h with
 |stop h=>exact⟨h,rfl,rfl⟩
theorem lT.none {k:Nat}{t:Int}{B C:BT}{l done m:List zC}(h:lT k t B l done C m)(h1:jW k B (wS l t)=Option.none)(h2:fE k B l t=Option.none):done=[]∧C=B∧m=l:=by
 cases h with
 |stop g1 _=>exact g1.none h1
 |step g1 g2 ne _=>
  obtain⟨rfl,rfl,rfl⟩:=g1.none h1
  obtain⟨rfl,_,_⟩:=g2.none h2
  exact absurd rfl ne
theorem yNt {k:Nat}(hk:200≤k)(t:Int):∀(n:Nat) (B:BT) (l r:List zC),yM B→qT l→l.length≤100→l.length<n→r.length+l.length≤900→
  ∃(C:BT) (m done:List zC),Fo k n t l B.1 B.2.1 B.2.2.1 B.2.2.2 r=some (m,C.1,C.2.1,C.2.2.1,C.2.2.2,r++done)∧lT k t B l done C m∧yM C∧C.1.length=B.1.length∧List.Sublist m l
 |0,_,_,_,_,_,_,h,_=>absurd h (Nat.not_lt_zero _)
 |n+1,B,l,r,hb,hd,hl,hn,hr=>by
  obtain⟨C,m,d,f1,f2,f3,f4,f5⟩:=yYr hk hb hd hl t
  have p1:=f2.perm hd
  have l1:=p1.length_eq
  rw[List.length_append] at l1
  have hm:qT m:=List.Pairwise.sublist f5 hd
  obtain⟨D,o,e,g1,g2,g3,g4,g5⟩:=vAh hk f3 hm (by omega) t
  have p2:=g2.perm hm
  have l2:=p2.length_eq
  rw[List.length_append] at l2
  have r1:zX (r.length+d.length) 56=true:=yF (by omega) (by omega)
  have r2:zX ((r++d).length+e.length) 56=true:=yF (by rw[List.length_append];omega) (by rw[List.length_append];omega)
  show∃C' m' aaa,Jb k _ t l B.1 B.2.1 B.2.2.1 B.2.2.2 r=_∧_
  unfold Jb
  rw[f1]
  simp only[an]
  rw[g1]
  simp only[an,r1,r2,aq]
  cases e with
  |nil=>
   obtain⟨h1,h2,h3⟩:=g2.nil
   subst h2;subst h3
   refine⟨D,o,d,?_,.stop f2 h1,f3,f4,f5⟩
   simp
  |cons p e=>
   have aV:o.length+(e.length+1)=m.length:=by simp at l2;omega
   obtain⟨E,q,f,k1,k2,k3,k4,k5⟩:=yNt hk t n D o (r++d++(p::e)) g3 (List.Pairwise.sublist g5 hm) (by omega) (by omega) (by simp;omega)
   refine⟨E,q,d++(p::e)++f,?_,.step f2 g2 (by simp) k2,k3,k4.trans (g4.trans f4),k5.trans (g5.trans f5)⟩
   have e1:decide ((((p::e).length:Nat):Int)=0)=false:=aj (by simp;omega)
   rw[e1]
   simp only[ao]
   rw[k1]
   simp
theorem Jc {k:Nat}(hk:200≤k){B:BT}(hb:yM B){l:List zC}(hd:qT l)(hl:l.length≤100)(t:Int):
  ∃(C:BT) (m done:List zC),Fp k B.1 B.2.1 B.2.2.1 B.2.2.2 l t=some (C.1,C.2.1,C.2.2.1,C.2.2.2,m,done)∧lT k t B l done C m∧yM C∧C.1.length=B.1.length∧List.Sublist m l:=by
 obtain⟨C,m,done,h1,h3⟩:=yNt hk t k B l [] hb hd hl (by omega) (by simp;omega)
 refine⟨C,m,done,?_,h3⟩
 unfold Fp
 rw[h1]
 rfl
theorem qU9:∀(hs l:List zC),qT l→qT hs→(∀q∈hs,q∈l)→List.Perm (hs++oU l hs) l
 |[],l,_,_,_=>List.Perm.refl _
 |p::hs,l,hd,hh,ey=>by
  have hp:=ey p (List.mem_cons_self ..)
  obtain⟨h1,h2⟩:=Be hp
  have hc:=List.pairwise_cons.1 hh
  have:=qU9 hs (jI l p.1) (List.Pairwise.sublist h2 hd) hc.2 (fun q hq=>Qh hp (ey q (List.mem_cons_of_mem _ hq)) (fun e=>hc.1 q hq e.symm))
  exact(this.cons p).trans (Ja hd hp)
theorem yVn {k:Nat}(hk:100<k){B:BT}(hb:yM B):nr k B.1 B.2.1 B.2.2.1 B.2.2.2 []=some (B.1,B.2.1,B.2.2.1,B.2.2.2,0):=by
  obtain⟨r,h1,h3⟩:=Io hk hb (l:=[]) (by simp)
  have aK:wF B.1.length []:=⟨fun p hp=>(by cases hp),by simp⟩
  obtain⟨a',p',h4,h5⟩:=h3.1 aK
  have aa:qu B.1.length B.1 B.2.2.2 [] B.1 B.2.2.2:={
    al:=rfl
    acct:=fun i hi=>by
      have hc:=hb.acct i hi
      have hr:0≤(B.1.getD i ad).2.2:=by
        have:=hb.nums.res i hi
        exact this.1
      show B.1.getD i ad=((B.1.getD i ad).1+0,(B.1.getD i ad).2.1,wB (B.1.getD i ad).2.2 0)
      have e:wB (B.1.getD i ad).2.2 0=(B.1.getD i ad).2.2:=by
        unfold wB
        split<;>omega
      rw[e,Int.add_zero]
    pl:=hb.pl
    pr:=hb.pr
    cell:=fun i hi j hj=>by show _=_+0-0;omega}
  obtain⟨e1,e2⟩:=h4.same aa
  subst e1;subst e2
  rw[Ph.2 hb] at h5
  rw[h1,h5]
  rfl
theorem yIo {k:Nat}(hk:200≤k){B:BT}(hb:yM B){l:List zC}(hd:qT l)(hl:∀q∈l,yS B.1.length q)(dB:l.length≤64)(t:Int):
  ∃(C:BT) (m done:List zC),Bw k B.1 B.2.1 B.2.2.1 B.2.2.2 l t=some (C.1,C.2.1,C.2.2.1,C.2.2.2,m,done)∧yM C∧C.1.length=B.1.length∧List.Sublist m l∧List.Perm (done++m) l∧(done=[]→C=B∧m=l):=by
 obtain⟨f,n,h,hn⟩:=yGk hb hl dB t
 have Qu:=Fi l t
 have cO:=Bk (wD l t) f
 have hhl:=cO.length_le
 obtain⟨r,h1,h2,h3⟩:=IV (k:=k) (by omega) hb (l:=vW (wD l t) f) (by omega)
 have hs:=EG hb h3
 have g1:=qXs (k:=k) (by omega) hb hl dB t (by omega) h h1
 unfold I8 at g1
 cases c:decide (r.2.2.2.2=0) with
 |false=>
  rw[c] at g1
  exact⟨B,l,[],g1,hb,rfl,List.Sublist.refl _,List.Perm.refl _,fun _=>⟨rfl,rfl⟩⟩
 |true=>
  rw[c] at g1
  have iz:List.Sublist (vW (wD l t) f) l:=cO.trans List.filter_sublist
  have hal:r.1.length=B.1.length:=by
   by_cases c':wF B.1.length (vW (wD l t) f)
   ·obtain⟨a',p',x,e⟩:=h3.1 c'
    cases hi:kT a' B.2.1 B.2.2.1 p' with
    |false=>rw[hi] at e;subst e;rfl
    |true=>rw[hi] at e;subst e;exact x.al
   ·rw[h3.2 c']
  refine⟨(r.1,r.2.1,r.2.2.1,r.2.2.2.1),oU l (vW (wD l t) f),vW (wD l t) f,g1,hs.2.1,hal,(Qn _ _).2,qU9 _ _ hd (List.Pairwise.sublist iz hd) (fun q hq=>iz.subset hq),fun e=>?_⟩
  rw[e] at h1⊢
  rw[yVn (by omega) hb] at h1
  cases h1
  exact⟨rfl,rfl⟩
theorem yA8 {k:Nat}(hk:200≤k){B:BT}(hb:yM B){l:List zC}(hd:qT l)(hl:∀q∈l,yS B.1.length q)(dB:l.length≤64)(t:Int)(all:Bool):
  ∃(C:BT) (m done:List zC),wi k B.1 B.2.1 B.2.2.1 B.2.2.2 l t all=some (C.1,C.2.1,C.2.2.1,C.2.2.2,m,done)∧yM C∧C.1.length=B.1.length∧List.Sublist m l∧List.Perm (done++m) l∧jW k C (wS m t)=none∧fE k C m t=none:=by
 obtain⟨C,m,d,f1,f2,f3,f4,f5⟩:=Jc hk hb hd (by omega) t
 have p1:=f2.perm hd
 have l1:=p1.length_eq
 rw[List.length_append] at l1
 unfold wi
 rw[f1]
 simp only[an]
 cases all with
 |false=>exact⟨C,m,d,rfl,f3,f4,f5,p1,f2.final⟩
 |true=>
  simp only[bd,ao]
  have hm:qT m:=List.Pairwise.sublist f5 hd
  obtain⟨D,n,x,g1,g2,g3,g4,g5,g6⟩:=yIo hk f3 hm (fun q hq=>by rw[f4];exact hl q (f5.subset hq)) (by omega) t
  have l2:=g5.length_eq
  rw[List.length_append] at l2
  rw[g1]
  simp only[an]
  cases x with
  |nil=>
   obtain⟨rfl,rfl⟩:=g6 rfl
   exact⟨D,n,d,rfl,f3,f4,f5,p1,f2.final⟩
  |cons p x=>
   have e1:decide ((((p::x).length:Nat):Int)=0)=false:=aj (by simp;omega)
   rw[e1]
   simp only[ao]
   have hn:qT n:=List.Pairwise.sublist g4 hm
   obtain⟨E,o,y,k1,k2,k3,k4,k5⟩:=Jc hk g2 hn (by omega) t
   have p3:=k2.perm hn
   have l3:=p3.length_eq
   rw[List.length_append] at l3
   have r1:zX (d.length+(p::x).length) 56=true:=yF (by simp at l2⊢;omega) (by simp at l2⊢;omega)
   have r2:zX ((d++(p::x)).length+y.length) 56=true:=yF (by simp at l2⊢;omega) (by simp at l2⊢;omega)
   rw[k1]
   simp only[an,r1,r2,aq]
   refine⟨E,o,d++(p::x)++y,rfl,k3,k4.trans (g3.trans f4),k5.trans (g4.trans f5),?_,k2.final⟩
   have e2:d++(p::x)++y++o=d++((p::x)++(y++o)):=by simp
   rw[e2]
   exact((p3.append_left (p::x)).append_left d).trans ((g5.append_left d).trans p1)
abbrev qU:=Int×Int×Int×Int×Int×Int×Int×Int
instance wj:DecidableEq qU:=@instDecidableEqProd Int (Int×Int×Int×Int×Int×Int×Int) inferInstance (@instDecidableEqProd Int (Int×Int×Int×Int×Int×Int) inferInstance inferInstance)
def vU (to:Int)(p:zC):qU:=(to,18,p.1,p.2.1,p.2.2.1,p.2.2.2.1,0,0)
def nF (p:zC):List qU:=[vU p.2.1 p,vU p.2.2.1 p]
def vX:List zC→List qU
 |[]=>[]
 |p::l=>nF p++vX l
theorem yHg:∀(l m:List zC),vX (l++m)=vX l++vX m
 |[],_=>rfl
 |p::l,m=>by
  show nF p++vX (l++m)=nF p++vX l++vX m
  rw[yHg l m,List.append_assoc]
theorem Jd:∀(l:List zC),(vX l).length=2*l.length
 |[]=>rfl
 |p::l=>by
  show(nF p++vX l).length=_
  rw[List.length_append,Jd l]
  simp[nF]
  omega
theorem vCn (l:List zC)(i:Nat)(hi:i<l.length):vX (l.take (i+1))=vX (l.take i)++nF (l.getD i pd):=by
 rw[←jK l i pd hi,yHg]
 show _++(nF _++[])=_
 rw[List.append_nil]
theorem Fq {n:Nat}(h:n≤1000):zX (n+1) 64=true:=yF (by omega) (by omega)
theorem vKf {k:Nat}(hk:3≤k)(s8:List zC)(s9 aC:Int)(r:List qU)(hr:r.length≤900)(p:zC):
  tu k k s8 s9 aC 2 0 r p.1 p.2.1 p.2.2.1 p.2.2.2.1 p.2.2.2.2.1 p.2.2.2.2.2.1 p.2.2.2.2.2.2 [p.2.1,p.2.2.1]=some (s8,s9,aC,r++nF p):=by
 obtain⟨n,rfl⟩:∃n,k=n+3:=⟨k-3,by omega⟩
 have e1:zX (r.length+1) 64=true:=Fq (by omega)
 have e2:zX ((r++[vU p.2.1 p]).length+1) 64=true:=Fq (by rw[List.length_append];simp;omega)
 have h1:nG (n+3) p.2.1 18 [p.1,p.2.1,p.2.2.1,p.2.2.2.1]=some (vU p.2.1 p):=rfl
 have h2:nG (n+3) p.2.2.1 18 [p.1,p.2.1,p.2.2.1,p.2.2.2.1]=some (vU p.2.2.1 p):=rfl
 have w0:zA (0+1)=1:=by decide
 have w1:zA (1+1)=2:=by decide
 show tv (n+3) (tu (n+3) (n+2)) s8 s9 aC 2 0 r p.1 p.2.1 p.2.2.1 p.2.2.2.1 p.2.2.2.2.1 p.2.2.2.2.2.1 p.2.2.2.2.2.2 [p.2.1,p.2.2.1]=_
 unfold tv
 have g0:[p.2.1,p.2.2.1].getD (Int.toNat 0) 0=p.2.1:=rfl
 have b0:zE 0 [p.2.1,p.2.2.1].length=true:=rfl
 have d0:decide ((0:Int)<2)=true:=rfl
 rw[d0,b0,g0,h1]
 simp only[aq,an,e1,w0]
 show tv (n+3) (tu (n+3) (n+1)) s8 s9 aC 2 1 (r++[vU p.2.1 p]) p.1 p.2.1 p.2.2.1 p.2.2.2.1 p.2.2.2.2.1 p.2.2.2.2.2.1 p.2.2.2.2.2.2 [p.2.1,p.2.2.1]=_
 unfold tv
 have g1:[p.2.1,p.2.2.1].getD (Int.toNat 1) 0=p.2.2.1:=rfl
 have b1:zE 1 [p.2.1,p.2.2.1].length=true:=rfl
 have d1:decide ((1:Int)<2)=true:=rfl
 rw[d1,b1,g1,h2]
 simp only[aq,an,e2,w1]
 show tv (n+3) (tu (n+3) n) s8 s9 aC 2 2 (r++[vU p.2.1 p]++[vU p.2.2.1 p]) p.1 p.2.1 p.2.2.1 p.2.2.2.1 p.2.2.2.2.1 p.2.2.2.2.2.1 p.2.2.2.2.2.2 [p.2.1,p.2.2.1]=_
 unfold tv
 have d2:decide ((2:Int)<2)=false:=rfl
 rw[d2,List.append_assoc]
 rfl
theorem qVe {k:Nat}{l:List zC}(hk:l.length+3≤k)(hl:l.length≤400):Je k l=some (vX l):=by
 unfold Je
 obtain ⟨s', h1, h2⟩ := vY (L := fun n i (s : List qU) => Bx k n l l.length i s) (N := l.length) (fun s => s) (fun i s => s = vX (l.take i)) (fun n s _=>by
  show By k _ l l.length l.length s=_
  unfold By
  simp only [qC, aj (Nat.lt_irrefl _), ao]) (fun n i s hi hs=>by
  refine⟨_,?_,(vCn l i hi).symm⟩
  show By k _ l l.length i s=_
  unfold By
  have iz:s.length≤900:=by
   rw[hs,Jd,List.length_take];omega
  have h2:=vKf (k:=k) (by omega) l l.length i s iz (l.getD i pd)
  simp only[pd] at h2
  simp only[qZ,qC,aN,ai hi,aq]
  rw[h2]
  simp only[an,qY hi (show l.length<9223372036854775808 by omega)]
  rw[hs]) (s:=[]) (show l.length<k by omega) rfl
 have eH:Bx k k l l.length 0 []=some s':=h1
 rw[eH,h2,List.take_length]
 rfl
def jN (q:zC)(o:qU):Bool:=decide (o.2.2.1=q.1)&&(decide (o.1=q.2.1)&&(decide (o.2.1=21)||(decide (o.2.1=22)||decide (o.2.1=18))))
def iM (q:zC)(o:List qU):Nat:=o.countP (jN q)
theorem wk (q:zC)(a b:List qU):iM q (a++b)=iM q a+iM q b:=List.countP_append
theorem Jf {f:zC→Bool}{q:zC}:∀{ps:List zC},qT ps→q∈ps→f q=true→(∀p∈ps,f p=true→p.1=q.1)→ps.countP f=1
 |[],_,h,_,_=>by cases h
 |p::ps,hd,hq,hf,hu=>by
  have hc:=List.pairwise_cons.1 hd
  rw[List.countP_cons]
  rcases List.mem_cons.1 hq with rfl|hq
  ·rw[hf,if_pos rfl]
   have:ps.countP f=0:=by
    rw[List.countP_eq_zero]
    intro r hr uV
    exact hc.1 r hr (hu r (List.mem_cons_of_mem _ hr) uV).symm
   omega
  ·have:f p=false:=by
    cases h:f p with
    |false=>rfl
    |true=>exact absurd (hu p (List.mem_cons_self ..) h) (hc.1 q hq)
   rw[this,Jf hc.2 hq hf (fun r hr=>hu r (List.mem_cons_of_mem _ hr))]
   rfl
def vZ (kd:Int)(p:zC):qU:=(p.2.1,kd,p.1,0,0,0,0,0)
theorem Bz {kd:Int}(hk:kd=21∨kd=22){q:zC}{ps:List zC}(hd:qT ps):(q∈ps→iM q (ps.map (vZ kd))=1)∧((∀p∈ps,p.1≠q.1)→iM q (ps.map (vZ kd))=0):=by
 unfold iM
 rw[List.countP_map]
 constructor
 ·intro h
  apply Jf hd h
  ·show jN q (vZ kd q)=true
   unfold jN vZ
   rcases hk with rfl|rfl<;>simp
  ·intro p hp hf
   have dN:jN q (vZ kd p)=true:=hf
   unfold jN vZ at dN
   rw[bU,bN] at dN
   exact dN.1
 ·intro h
  rw[List.countP_eq_zero]
  intro p hp hf
  have dN:jN q (vZ kd p)=true:=hf
  unfold jN vZ at dN
  rw[bU,bN] at dN
  exact h p hp dN.1
theorem yA9 (q:zC):∀(d:List zC),iM q (vX d)=d.countP (fun p=>jN q (vU p.2.1 p))+d.countP (fun p=>jN q (vU p.2.2.1 p))
 |[]=>rfl
 |p::d=>by
  show iM q (nF p++vX d)=_
  rw[wk,yA9 q d,List.countP_cons,List.countP_cons]
  have e:iM q (nF p)=(if jN q (vU p.2.1 p)=true then 1 else 0)+(if jN q (vU p.2.2.1 p)=true then 1 else 0):=by
   unfold iM nF
   rw[List.countP_cons,List.countP_cons,List.countP_nil]
   omega
  rw[e]
  omega
theorem Jg {n:Nat}{q:zC}{d:List zC}(hd:qT d)(hm:∀p∈d,yS n p):(q∈d→iM q (vX d)=1)∧((∀p∈d,p.1≠q.1)→iM q (vX d)=0):=by
 have h2:∀(l:List zC),qT l→(∀p∈l,yS n p)→(q∈l∨∀p∈l,p.1≠q.1)→l.countP (fun p=>jN q (vU p.2.2.1 p))=0:=by
  intro l Fs IY hq
  rw[List.countP_eq_zero]
  intro p hp hf
  have dN:jN q (vU p.2.2.1 p)=true:=hf
  unfold jN vU at dN
  rw[bU,bU,bN,bN] at dN
  rcases hq with hq|hq
  ·have:=Fs.eq_of hp hq dN.1
   subst this
   exact(IY p hp).ne dN.2.1.symm
  ·exact hq p hp dN.1
 rw[yA9]
 constructor
 ·intro h
  rw[h2 d hd hm (.inl h),Jf hd h]
  ·show jN q (vU q.2.1 q)=true
   unfold jN vU
   simp
  ·intro p hp hf
   have dN:jN q (vU p.2.1 p)=true:=hf
   unfold jN vU at dN
   rw[bU,bN] at dN
   exact dN.1
 ·intro h
  rw[h2 d hd hm (.inr h)]
  have:d.countP (fun p=>jN q (vU p.2.1 p))=0:=by
   rw[List.countP_eq_zero]
   intro p hp hf
   have dN:jN q (vU p.2.1 p)=true:=hf
   unfold jN vU at dN
   rw[bU,bN] at dN
   exact h p hp dN.1
  omega
def nH (B:BT)(i:Nat):qU:=((i:Int),23,(B.1.getD i ad).1,0,0,0,0,0)
def gp (B:BT)(n:Nat):List qU:=(List.range n).map (nH B)
theorem yCy (q:zC)(B:BT)(n:Nat):iM q (gp B n)=0:=by
 unfold iM gp
 rw[List.countP_map,List.countP_eq_zero]
 intro i _ hf
 have dN:jN q (nH B i)=true:=hf
 unfold jN nH at dN
 simp at dN
theorem yTs (B:BT)(i:Nat):gp B (i+1)=gp B i++[nH B i]:=by
 unfold gp
 rw[List.range_succ,List.map_append];rfl
theorem yZt {α β:Type}(f:α→β)(l:List α)(i:Nat)(d:α)(h:i<l.length):(l.take (i+1)).map f=(l.take i).map f++[f (l.getD i d)]:=by
 rw[←jK l i d h,List.map_append];rfl
theorem yUv {k:Nat}{B:BT}(hB:B.1.length≤6)(hk:200≤k){m:List zC}(hm:m.length≤100)(t:Int)(pr:List Int)(ho:List (List Int))(ids:List Int)(to:Int)(ov:Bool):
  Jh k t B.1 B.2.1 B.2.2.1 B.2.2.2 pr ho m ids to ov=some (t,B.1,B.2.1,B.2.2.1,B.2.2.2,pr,ho,[],ids,to,true,m.map (vZ 22)++gp B B.1.length):=by
 unfold Jh
 obtain ⟨s', h1, h2⟩ := vY (L := fun n i (s : List qU) => BA k n m m.length i t B.1 B.2.1 B.2.2.1 B.2.2.2 pr ho m ids to ov 0 0 false s) (N := m.length) (fun s => (t, B.1, B.2.1, B.2.2.1, B.2.2.2, pr, ho, m, ids, to, ov, 0, 0, false, s)) (fun i s => s = (m.take i).map (vZ 22)) (fun n s _=>by
  show BB k _ m m.length m.length t B.1 B.2.1 B.2.2.1 B.2.2.2 pr ho m ids to ov 0 0 false s=_
  unfold BB
  simp only [qC, aj (Nat.lt_irrefl _), ao]) (fun n i s hi hs=>by
  refine⟨_,?_,(yZt (vZ 22) m i pd hi).symm⟩
  show BB k _ m m.length i t B.1 B.2.1 B.2.2.1 B.2.2.2 pr ho m ids to ov 0 0 false s=_
  unfold BB
  have iz:s.length≤900:=by rw[hs,List.length_map,List.length_take];omega
  have tw:nG k (m.getD i pd).2.1 22 [(m.getD i pd).1]=some (vZ 22 (m.getD i pd)):=rfl
  simp only[pd] at tw
  simp only[qZ,qC,aN,ai hi,aq,tw,an,Fq (show s.length≤1000 by omega),qY hi (show m.length<9223372036854775808 by omega)]
  rw[hs]) (s:=[]) (show m.length<k by omega) rfl
 have eH:BA k k m m.length 0 t B.1 B.2.1 B.2.2.1 B.2.2.2 pr ho m ids to ov 0 0 false []=_:=h1
 rw[eH,h2,List.take_length]
 simp only[an]
 obtain ⟨s2, g1, g2⟩ := vY (L := fun n i (s : List qU) => BC k n B.1 B.1.length i t B.1 B.2.1 B.2.2.1 B.2.2.2 pr ho m ids to ov 0 0 false s) (N := B.1.length) (fun s => (t, B.1, B.2.1, B.2.2.1, B.2.2.2, pr, ho, m, ids, to, ov, 0, 0, false, s)) (fun i s => s = m.map (vZ 22) ++ gp B i) (fun n s _=>by
  show BD k _ B.1 B.1.length B.1.length t B.1 B.2.1 B.2.2.1 B.2.2.2 pr ho m ids to ov 0 0 false s=_
  unfold BD
  simp only [qC, aj (Nat.lt_irrefl _), ao]) (fun n i s hi hs=>by
  refine⟨_,?_,(show m.map (vZ 22)++gp B i++[nH B i]=m.map (vZ 22)++gp B (i+1) by rw[yTs,List.append_assoc])⟩
  show BD k _ B.1 B.1.length i t B.1 B.2.1 B.2.2.1 B.2.2.2 pr ho m ids to ov 0 0 false s=_
  unfold BD
  have iz:s.length≤900:=by
   rw[hs,List.length_append,List.length_map]
   unfold gp
   rw[List.length_map,List.length_range]
   omega
  have tw:nG k i 23 [(B.1.getD i ad).1]=some (nH B i):=rfl
  have ho3:nG k i 23 [(B.1.getD i (0,0,0)).1]=some (nH B i):=tw
  simp only[qZ,qC,aN,ai hi,aq,ho3,an,Fq (show s.length≤1000 by omega),qY hi (show B.1.length<9223372036854775808 by omega)]
  rw[hs]) (s:=m.map (vZ 22)) (show B.1.length<k by omega) (by show _=_++[];rw[List.append_nil])
 have Qa:BC k k B.1 B.1.length 0 t B.1 B.2.1 B.2.2.1 B.2.2.2 pr ho m ids to ov 0 0 false (m.map (vZ 22))=_:=g1
 rw[Qa,g2]
 rfl
def wQ (t:Int)(p:zC):Bool:=decide (t>p.2.2.2.2.2.2)
theorem yTi {k:Nat}(hk:200≤k){m:List zC}(hm:m.length≤100)(pa:Int)(as:List (Int×Int))(cu cl pe t:Int)(B:BT)(pr:List Int)(ho:List (List Int))(ids:List Int)(to:Int)(ov:Bool):
  BE k k m m.length 0 pa as cu cl pe t B.1 B.2.1 B.2.2.1 B.2.2.2 pr ho m ids to ov 0 0 false [] []=some (pa,as,cu,cl,pe,t,B.1,B.2.1,B.2.2.1,B.2.2.2,pr,ho,m,ids,to,ov,0,0,false,(m.filter (wQ t)).map (vZ 21),m.filter (fun p=> !wQ t p)):=by
 obtain ⟨s', h1, h2, h3⟩ := vY (L := fun n i (s : List qU × List zC) => BE k n m m.length i pa as cu cl pe t B.1 B.2.1 B.2.2.1 B.2.2.2 pr ho m ids to ov 0 0 false s.1 s.2) (N := m.length) (fun s => (pa, as, cu, cl, pe, t, B.1, B.2.1, B.2.2.1, B.2.2.2, pr, ho, m, ids, to, ov, 0, 0, false, s.1, s.2)) (fun i s => s.1 = ((m.take i).filter (wQ t)).map (vZ 21) ∧ s.2 = (m.take i).filter (fun p => !wQ t p)) (fun n s _=>by
  show BF k _ m m.length m.length pa as cu cl pe t B.1 B.2.1 B.2.2.1 B.2.2.2 pr ho m ids to ov 0 0 false s.1 s.2=_
  unfold BF
  simp only [qC, aj (Nat.lt_irrefl _), ao]) (fun n i s hi hs=>by
  have xU:s.1.length≤900:=by
   rw[hs.1,List.length_map]
   have:=List.length_filter_le (wQ t) (m.take i)
   rw[List.length_take] at this
   omega
  have pJ:s.2.length≤900:=by
   rw[hs.2]
   have:=List.length_filter_le (fun p=> !wQ t p) (m.take i)
   rw[List.length_take] at this
   omega
  show∃s',BF k _ m m.length i pa as cu cl pe t B.1 B.2.1 B.2.2.1 B.2.2.2 pr ho m ids to ov 0 0 false s.1 s.2=_∧_
  unfold BF Qw
  have tw:nG k (m.getD i pd).2.1 21 [(m.getD i pd).1]=some (vZ 21 (m.getD i pd)):=rfl
  simp only[pd] at tw
  simp only[qZ,qC,aN,ai hi,aq,tw,an,Fq (show s.1.length≤1000 by omega),tf (show s.2.length≤1000 by omega),qY hi (show m.length<9223372036854775808 by omega)]
  have f1:=EV (wQ t) m i pd hi
  have f2:=EV (fun p=> !wQ t p) m i pd hi
  cases hb:wQ t (m.getD i pd) with
  |true=>
   have bB:decide (t>(m.getD i (0,0,0,0,0,0,0)).2.2.2.2.2.2)=true:=hb
   rw[bB]
   refine⟨(s.1++[vZ 21 (m.getD i pd)],s.2),rfl,?_,?_⟩
   ·show s.1++_=_
    rw[f1,hb,hs.1]
    simp
   ·show s.2=_
    rw[f2,hb,hs.2]
    simp
  |false=>
   have bB:decide (t>(m.getD i (0,0,0,0,0,0,0)).2.2.2.2.2.2)=false:=hb
   rw[bB]
   refine⟨(s.1,s.2++[m.getD i pd]),rfl,?_,?_⟩
   ·show s.1=_
    rw[f1,hb,hs.1]
    simp
   ·show s.2++_=_
    rw[f2,hb,hs.2]
    simp) (s:=([],[])) (show m.length<k by omega) ⟨rfl,rfl⟩
 have:=h1.trans (by rw[h2,h3,List.take_length])
 exact this
structure vCo (t cl:Int) (B C:BT) (m m':List zC) (ov:Bool) (o:List qU):Prop where
 bk:yM C
 bl:C.1.length=B.1.length
 sub:List.Sublist m' m
 over:ov=decide (t+1=cl)
 none:ov=true→m'=[]
 late:ov=false→∀p∈m',wQ (t+1) p=false
 EG:∀p∈m',iM p o=0
 iJ:∀p∈m,p∉m'→iM p o=1
 quiet:∀q:zC,(∀p∈m,p.1≠q.1)→iM q o=0
 room:o.length+2*m'.length≤2*m.length+(if ov=true then 6 else 0)
theorem qT.not_in {l m d:List zC}(hd:qT (d++m)){p:zC}(hp:p∈m):∀q∈d,q.1≠p.1:=fun q hq=>(List.pairwise_append.1 hd).2.2 q hq p hp
end Go.Ab.Gi
