/- Plain proofs, part 0. -/
import Derived.Test.YtpgcgnfpnjolpaaGreatGiAbC
import Derived.Test.YtpgcgnfpnjolpaaGreatGiXS
set_option linter.unusedVariables false
set_option linter.unusedSimpArgs false
set_option linter.unusedSectionVars false
set_option maxRecDepth 100000
namespace Go.Ab
theorem ag {p:Prop}[Decidable p](h:p):decide p=true:=decide_eq_true h
theorem ai {p:Prop}[Decidable p](h:¬p):decide p=false:=decide_eq_false h
theorem PZ {p:Prop}[Decidable p](h:decide p=true):p:=of_decide_eq_true h
theorem oq {p:Prop}[Decidable p](h:decide p=false):¬p:=of_decide_eq_false h
theorem bO {p:Prop}[Decidable p]:(decide p=true)=p:=decide_eq_true_eq
theorem ak {α β:Type}(a:α)(f:α→Option β):(some a).bind f=f a:=rfl
theorem av {α:Type}(a b:α):cond true a b=a:=rfl
theorem ay {α:Type}(a b:α):cond false a b=b:=rfl
theorem aC (n:Nat):(n:Int).toNat=n:=rfl
theorem bJ (a b:Bool):((a&&b)=true)=(a=true∧b=true):=Bool.and_eq_true a b
theorem bG:(!true)=false:=rfl
theorem fZ:(!false)=true:=rfl
end Go.Ab
namespace Go.Ab
theorem zN {x:Int}(h1:-9223372036854775808≤x)(h2:x<9223372036854775808):zA x=x:=by
 unfold zA IntKind.wrap;simp only[IntKind.bits,IntKind.signed,Bool.true_and];by_cases h:x%2^64≥2^(64-1)
 ·rw[if_pos (by simpa using h)];omega
 ·rw[if_neg (by simpa using h)];omega
theorem qD {i N:Nat}(h:i<N)(hN:N<9223372036854775808):zA ((i:Int)+1)=((i+1:Nat):Int):=by
 rw[zN (by omega) (by omega)];rfl
theorem zW (i n:Nat):zC (i:Int) n=decide (i<n):=by
 unfold zC;simp
theorem vx {i:Int}{n:Nat}(h0:0≤i)(h1:i<n):zC i n=true:=by
 unfold zC;simp;omega
theorem qT {n b}(h:n*b≤140737488355328)(h':n≤140737488355328):zR n b=true:=by
 simp_all
theorem qM (i n:Nat):decide ((i:Int)<(n:Int))=decide (i<n):=by simp
theorem ot (i n:Nat):decide ((i:Int)=(n:Int))=decide (i=n):=by
 by_cases h:i=n
 ·subst h;simp
 ·rw[ai h,ai (by omega)]
def qA (p:Nat→Bool):Nat→Nat→Bool
 |0,_=>true
 |c+1,i=>p i&&qA p c (i+1)
theorem yIl {p:Nat→Bool}:∀{c i:Nat},qA p c i=true↔∀j,i≤j→j<i+c→p j=true
 |0,i=>by simp[qA];intro j h1 h2;omega
 |c+1,i=>by
  simp only[qA,bJ,yIl (c:=c)];constructor
  ·rintro⟨h1,h2⟩ j h3 h4
   by_cases e:j=i
   ·subst e;exact h1
   ·exact h2 j (by omega) (by omega)
  ·intro h;exact⟨h i (Nat.le_refl i) (by omega),fun j h1 h2=>h j (by omega) (by omega)⟩
theorem wI {p c}:qA p c 0=true↔∀j,j<c→p j=true:=by
 rw[yIl];simp
theorem P0 {X:Type}{L:Nat→Int→Option X}{N:Nat} ok a b (bH:∀n,L (n+1) (N:Int)=some a)
  (aH:∀n i,i<N→L (n+1) (i:Int)=bif ok i then L n ((i+1:Nat):Int) else some b):∀c i n,i+c=N→c<n→L n (i:Int)=some (bif qA ok c i then a else b)
 |0,i,n,h,hn=>by
  obtain⟨n,rfl⟩:∃m,n=m+1:=⟨n-1,by omega⟩;have:i=N:=by omega
  subst this;exact bH n
 |c+1,i,n,h,hn=>by
  obtain⟨n,rfl⟩:∃m,n=m+1:=⟨n-1,by omega⟩;rw[aH n i (by omega)];unfold qA;cases ok i with
  |false=>rfl
  |true=>
   exact P0 ok a b bH aH c (i+1) n (by omega) (by omega)
theorem jK {X:Type}{L:Nat→Int→Option X}{N:Nat} ok a b (bH:∀n,L (n+1) (N:Int)=some a)
  (aH:∀n i,i<N→L (n+1) (i:Int)=bif ok i then L n ((i+1:Nat):Int) else some b) {n} (hn:N<n):L n 0=some (bif qA ok N 0 then a else b):=
 P0 ok a b bH aH N 0 n (by omega) hn
theorem yGj {L:Nat→Int→Option (Unit⊕Int)}{N:Nat}(bad:Nat→Bool)(bH:∀n,L (n+1) (N:Int)=some (.inl ()))
  (aH:∀n i,i<N→L (n+1) (i:Int)=bif bad i then some (.inr (i:Int)) else L n ((i+1:Nat):Int)):
  ∀c i n,i+c=N→c<n→(qA (fun j=> !bad j) c i=true∧L n (i:Int)=some (.inl ()))∨∃x:Nat,i≤x∧x<N∧bad x=true∧(∀j,i≤j→j<x→bad j=false)∧qA (fun j=> !bad j) c i=false∧L n (i:Int)=some (.inr (x:Int))
 |0,i,n,h,hn=>by
  obtain⟨n,rfl⟩:∃m,n=m+1:=⟨n-1,by omega⟩;have:i=N:=by omega
  subst this;exact .inl ⟨rfl,bH n⟩
 |c+1,i,n,h,hn=>by
  obtain⟨n,rfl⟩:∃m,n=m+1:=⟨n-1,by omega⟩;rw[aH n i (by omega)];unfold qA;cases hb:bad i with
  |true=>exact .inr ⟨i,Nat.le_refl i,by omega,hb,fun j h1 h2=>absurd h1 (by omega),rfl,rfl⟩
  |false=>
   simp only[ay,fZ,Bool.true_and];rcases yGj bad bH aH c (i+1) n (by omega) (by omega) with h1|⟨x,x1,x2,x3,x4,x5,x6⟩
   ·exact .inl h1
   ·refine .inr ⟨x,by omega,x2,x3,fun j h1 h2=>?_,x5,x6⟩;by_cases e:j=i
    ·subst e;exact hb
    ·exact x4 j (by omega) h2
theorem sJ {L:Nat→Int→Option (Unit⊕Int)}{N:Nat}(bad:Nat→Bool)(bH:∀n,L (n+1) (N:Int)=some (.inl ()))
  (aH:∀n i,i<N→L (n+1) (i:Int)=bif bad i then some (.inr (i:Int)) else L n ((i+1:Nat):Int)) {n:Nat} (hn:N<n):
  ∃x:Unit⊕Int,L n 0=some x∧decide ((match x with|.inl _=>(-1:Int)|.inr y=>y)≥0)= !qA (fun j=> !bad j) N 0:=by
 rcases yGj bad bH aH N 0 n (by omega) hn with⟨h1,h2⟩|⟨x,_,_,_,_,h5,h6⟩
 ·exact⟨_,h2,by rw[h1];rfl⟩
 ·exact⟨_,h6,by rw[h5];simp⟩
theorem qUp {S X:Type}{L:Nat→Int→S→Option X}{N}(e:S→X)(inv:Nat→S→Prop)(bH:∀n s,inv N s→L (n+1) (N:Int) s=some (e s))
  (aH:∀n i s,i<N→inv i s→∃s',L (n+1) (i:Int) s=L n ((i+1:Nat):Int) s'∧inv (i+1) s'):
  ∀c i n s,i+c=N→c<n→inv i s→∃s',L n (i:Int) s=some (e s')∧inv N s'
 |0,i,n,s,h,hn,hs=>by
  obtain⟨n,rfl⟩:∃m,n=m+1:=⟨n-1,by omega⟩;grind
 |c+1,i,n,s,h,hn,hs=>by
  obtain⟨n,rfl⟩:∃m,n=m+1:=⟨n-1,by omega⟩;obtain⟨s',h1,h2⟩:=aH n i s (by omega) hs;rw[h1];exact qUp e inv bH aH c (i+1) n s' (by omega) (by omega) h2
theorem yZ {S X:Type}{L:Nat→Int→S→Option X}{N}(e:S→X)(inv:Nat→S→Prop)(bH:∀n s,inv N s→L (n+1) (N:Int) s=some (e s))
 (aH:∀n i s,i<N→inv i s→∃s',L (n+1) (i:Int) s=L n ((i+1:Nat):Int) s'∧inv (i+1) s') {n s} (hn:N<n) (hs:inv 0 s):
 ∃s',L n 0 s=some (e s')∧inv N s':=qUp e inv bH aH N 0 n s (by omega) hn hs
def zM {α:Type}(g:α→Int):List α→Int
 |[]=>0
 |p::l=>g p+zM g l
theorem iy {α} g:∀(l m:List α),zM g (l++m)=zM g l+zM g m
 |[],m=>by simp[zM]
 |p::l,m=>by
  show g p+zM g (l++m)=g p+zM g l+zM g m;rw[iy g l m];omega
theorem vy {α g A}:∀{l:List α},(∀p∈l,-A≤g p∧g p≤A)→-(l.length*A)≤zM g l∧zM g l≤l.length*A
 |[],_=>by simp[zM]
 |p::l,h=>by
  have h1:=h p (by simp);have h2:=vy (l:=l) fun q hq=>h q (by grind)
  have e:((p::l).length:Int)*A=(l.length:Int)*A+A:=by
   rw[List.length_cons,Int.natCast_add,Int.add_mul];simp
  show-_≤g p+zM g l∧g p+zM g l≤_;omega
theorem sK {α g}:∀{l:List α},(∀p∈l,0≤g p)→0≤zM g l
 |[],_=>by simp[zM]
 |p::l,h=>by
  have h1:=h p (by simp);have h2:=sK (l:=l) fun q hq=>h q (by grind)
  show 0≤g p+zM g l;omega
theorem yMr {α} g h:∀(l:List α),zM (fun p=>g p+h p) l=zM g l+zM h l
 |[]=>rfl
 |p::l=>by
  show g p+h p+zM _ l=g p+zM g l+(h p+zM h l);rw[yMr g h l];omega
theorem P1 {α} g h:∀(l:List α),zM (fun p=>g p-h p) l=zM g l-zM h l
 |[]=>rfl
 |p::l=>by
  show g p-h p+zM _ l=g p+zM g l-(h p+zM h l);rw[P1 g h l];omega
theorem JT {α g h}:∀{l:List α},(∀p∈l,g p=h p)→zM g l=zM h l
 |[],_=>rfl
 |p::l,e=>by
  show g p+zM g l=h p+zM h l;rw[e p (by simp),JT fun q hq=>e q (by grind)]
def qE (g:Nat→Int):Nat→Int
 |0=>0
 |n+1=>qE g n+g n
theorem Au g h:∀n,qE (fun j=>g j+h j) n=qE g n+qE h n
 |0=>rfl
 |n+1=>by
  show qE _ n+(g n+h n)=qE g n+g n+(qE h n+h n);rw[Au g h n];omega
theorem ou {g h}:∀{n},(∀j,j<n→g j=h j)→qE g n=qE h n
 |0,_=>rfl
 |n+1,e=>by
  show qE g n+g n=qE h n+h n;rw[ou fun j hj=>e j (by omega),e n (by simp)]
theorem vz (c:Int)(t:Nat):∀n,qE (fun j=>if j=t then c else 0) n=if t<n then c else 0
 |0=>rfl
 |n+1=>by
  show qE _ n+(if n=t then c else 0)=_;rw[vz c t n];by_cases h:t<n
  ·rw[if_pos h,if_neg (by omega),if_pos (by omega)];omega
  ·by_cases h':n=t
   ·rw[if_neg h,if_pos h',if_pos (by omega)];omega
   ·rw[if_neg h,if_neg h',if_neg (by omega)];omega
theorem P2:∀n,qE (fun _=>0) n=0
 |0=>rfl
 |n+1=>by show qE _ n+0=0;rw[P2 n];rfl
theorem sL {g A}(h:∀j,-A≤g j∧g j≤A):∀n:Nat,-(n*A)≤qE g n∧qE g n≤n*A
 |0=>by simp[qE]
 |n+1=>by
  have h1:=h n;have h2:=sL h n;have e:((n+1:Nat):Int)*A=(n:Int)*A+A:=by
   grind
  show-_≤qE g n+g n∧qE g n+g n≤_;omega
theorem JU {α}(g:Nat→α→Int) n:∀l:List α,qE (fun j=>zM (g j) l) n=zM (fun p=>qE (fun j=>g j p) n) l
 |[]=>P2 n
 |p::l=>by
  show qE (fun j=>g j p+zM (g j) l) n=qE (fun j=>g j p) n+zM _ l;rw[Au,JU g n l]
theorem eO {α:Type}{l:List α}{i d}(h:i<l.length):l.getD i d∈l:=by
 simp_all
theorem ga {α:Type}(l:List α) i d (h:i<l.length):l.take i++[l.getD i d]=l.take (i+1):=by
 simp_all
theorem jD {α:Type}(l:List α)(i j:Nat)(a d:α):(l.set i a).getD j d=if i=j∧i<l.length then a else l.getD j d:=by
 rw[List.getD_eq_getElem?_getD,List.getD_eq_getElem?_getD,List.getElem?_set];by_cases h:i=j
 ·subst h;by_cases h':i<l.length<;>simp[h']
 ·simp[h]
theorem Av {α:Type}{l m:List α} d (hl:l.length=m.length)(h:∀i,i<l.length→l.getD i d=m.getD i d):l=m:=by
 apply List.ext_getElem hl;simp_all
theorem qYp m (hm:m≤62) x:yA .i64 x (2^m-1)=x%2^m:=by
 unfold yA oZ;have hp:(2:Int)^m=((2^m:Nat):Int):=by rfl
 have hle:2^m≤2^62:=Nat.pow_le_pow_right (by omega) hm;have jn:0<2^m:=by grind
 have e1:(BitVec.ofInt IntKind.i64.bits x&&&BitVec.ofInt IntKind.i64.bits (2^m-1)).toNat=(x%2^m).toNat:=by
  rw[BitVec.toNat_and,BitVec.toNat_ofInt,BitVec.toNat_ofInt];have e2:((2:Int)^m-1)%((2^IntKind.i64.bits:Nat):Int)=((2^m-1:Nat):Int):=by
   rw[hp];have:((2^m:Nat):Int)-1=((2^m-1:Nat):Int):=by omega
   rw[this];apply Int.emod_eq_of_lt (by omega);show((2^m-1:Nat):Int)<((2^64:Nat):Int);omega
  rw[e2,aC,Nat.and_two_pow_sub_one_eq_mod];have hx:0≤x%((2^IntKind.i64.bits:Nat):Int):=by omega
  have e3:x%2^m=(x%((2^IntKind.i64.bits:Nat):Int))%((2^m:Nat):Int):=by
   rw[hp,Int.emod_emod_of_dvd];show((2^m:Nat):Int)∣((2^64:Nat):Int);exact Int.natCast_dvd_natCast.2 (Nat.pow_dvd_pow 2 (by omega))
  grind
 rw[e1];have h0:0≤x%2^m:=by omega
 rw[Int.toNat_of_nonneg h0];exact zN (by omega) (by omega)
end Go.Ab
namespace Go.Ab.Gi
open Go.Ab
theorem yGt x:yA .i64 x 4294967295=x%4294967296:=qYp 32 (by omega) x
theorem yL0 x:shr .i64 x 32=x/4294967296:=by
 show x.fdiv (2^(min 32 64))=_;grind
theorem yWt x:shl .i64 x 32=zA (x*4294967296):=rfl
abbrev qQ:=Int×Int×Int
abbrev zG:=Int×Int×Int×Int×Int×Int×Int
def jE (a:qQ):Bool:=decide (a.1>-4611686018427387904)&&(decide (a.1<4611686018427387904)&&(decide (a.2.1≥0)&&(decide (a.2.1≤2305843009213693952)&&(decide (a.2.2≥0)&&decide (a.2.2≤2305843009213693952)))))
def vZ (n:Int):Bool:=decide (n≥-1)&&decide (n≤2305843009213693952)
def fH (n:Int):Bool:=decide (n>-72057594037927936)&&decide (n<72057594037927936)
def cell (m:EQ)(i j:Nat):Int:=(m.getD i []).getD j 0
def kF (n:Nat)(m:EQ):Bool:=decide (m.length=n)&&qA (fun i=>decide ((m.getD i []).length=n)) n 0
def mV (p:Int→Bool)(n:Nat)(m:EQ):Bool:=qA (fun i=>qA (fun j=>p (cell m i j)) n 0) n 0
def sM (n:Nat)(m:EQ):Bool:=qA (fun i=>qA (fun j=>decide (cell m i j=zA (0-cell m j i))) n 0) n 0
def j5 (sN:List qQ)(bil:EQ)(mul:AC)(pos:EQ):Bool:=
 let n:=sN.length
 decide (1≤n)&&(decide (n≤6)&&(kF n bil&&(kF n pos&&(decide (mul.length=n)&&(qA (fun i=>jE (sN.getD i (0,0,0))) n 0&&(qA (fun i=>vZ (mul.getD i 0)) n 0&&(mV vZ n bil&&(mV fH n pos&&sM n pos))))))))
theorem P3 k b c r:Fu k b c r=some (jE (b,c,r)):=by
 unfold Fu jE;grind
theorem yLt k b c r:JV k b c r=some (jE (b,c,r)):=P3 k b c r
theorem P4 k n:Fv k n=some (vZ n):=by
 unfold Fv vZ;grind
theorem yXt k n:P5 k n=some (vZ n):=P4 k n
theorem yUq k n:JW k n=some (fH n):=by
 unfold JW fH;grind
theorem yJi {k:Nat}{n:Nat}(hk:n<k)(hn:n≤1000)(m:EQ):Fw k m n=some (kF n m):=by
 unfold Fw kF;simp only[ot];by_cases h:m.length=n
 ·have := jK (L := fun c i => Fx k c m n i) (N := n) (fun i => decide ((m.getD i []).length = n)) (.inl ()) (.inr false) (fun c=>by
    show Aw k _ m n n=_;unfold Aw;simp only [qM, ai (Nat.lt_irrefl n), ay]) (fun c i hi=>by
    show Aw k _ m n i=_;unfold Aw;simp only[zW,qD hi (by omega),qM,ot,aC,h,ag hi,av];cases decide ((m.getD i []).length=n)<;>rfl) hk
  simp only[h,decide_true,bG,ay,Bool.true_and];rw[this];generalize qA _ _ _=r;cases r<;>rfl
 ·simp only[ai h,fZ,av,Bool.false_and]
theorem vKf {k:Nat}{N i:Nat}(hk:N<k)(hN:N≤1000)(hi:i<N){a:List qQ}{b p:EQ}{m:AC}(hb:b.length=N)(hp:p.length=N)(P6:∀j,j<N→(b.getD j []).length=N)(mW:∀j,j<N→(p.getD j []).length=N):
  Ax k k N i 0 a b m p=some (bif qA (fun j=>vZ (cell b i j)&&(fH (cell p i j)&&decide (cell p i j=zA (0-cell p j i)))) N 0 then .inl ((N:Int),(i:Int),a,b,m,p) else .inr false):=by
 refine jK (L:=fun c j=>Ax k c N i j a b m p) (N:=N) _ (.inl ((N:Int),(i:Int),a,b,m,p)) (.inr false) (fun c=>?_) (fun c j hj=>?_) hk
 ·show Ay k _ N i N a b m p=_;unfold Ay;simp only[qM,ai (Nat.lt_irrefl N),ay]
 ·show Ay k _ N i j a b m p=_;unfold Ay;simp only[zW,qD hj (by omega),qM,aC,hb,hp,P6 i hi,mW i hi,mW j hj,ag hj,ag hi,av,P4,ak,fH];show(bif !vZ (cell b i j) then _ else bif decide (cell p i j≤_) then _ else bif decide (cell p i j≥_) then _ else bif !decide (cell p i j=_) then _ else _)=_;have e1:decide (cell p i j≤-72057594037927936)= !decide (cell p i j>-72057594037927936):=by
   by_cases h:cell p i j≤-72057594037927936
   ·rw[ag h,ai (by omega)];rfl
   ·rw[ai h,ag (by omega)];rfl
  have e2:decide (cell p i j≥72057594037927936)= !decide (cell p i j<72057594037927936):=by
   by_cases h:cell p i j≥72057594037927936
   ·rw[ag h,ai (by omega)];rfl
   ·rw[ai h,ag (by omega)];rfl
  rw[e1,e2];show(bif !vZ (cell b i j) then _ else bif _ then _ else bif _ then _ else bif !decide (cell p i j=zA (0-cell p j i)) then _ else _)=_;cases vZ (cell b i j)<;>cases decide (cell p i j>-72057594037927936)<;>cases decide (cell p i j<72057594037927936)<;>cases decide (cell p i j=zA (0-cell p j i))<;>rfl
theorem vCm {k:Nat}{N:Nat}(hk:N<k)(hN:N≤1000){a:List qQ}{b p:EQ}{m:AC}(ha:a.length=N)(hm:m.length=N)(hb:b.length=N)(hp:p.length=N)(P6:∀j,j<N→(b.getD j []).length=N)(mW:∀j,j<N→(p.getD j []).length=N):
  Az k k N 0 a b m p=some (bif qA (fun i=>jE (a.getD i (0,0,0))&&(vZ (m.getD i 0)&&qA (fun j=>vZ (cell b i j)&&(fH (cell p i j)&&decide (cell p i j=zA (0-cell p j i)))) N 0)) N 0 then .inl () else .inr false):=by
 refine jK (L:=fun c j=>Az k c N j a b m p) (N:=N) _ (.inl ()) (.inr false) (fun c=>?_) (fun c i hi=>?_) hk
 ·show AA k _ N N a b m p=_;unfold AA;simp only[qM,ai (Nat.lt_irrefl N),ay]
 ·show AA k _ N i a b m p=_;unfold AA;simp only[zW,qM,aC,ha,hm,ag hi,av,P4,P3,ak,vKf hk hN hi hb hp P6 mW];generalize qA _ N 0=r;show(bif !jE (a.getD i (0,0,0)) then _ else _)=_;cases jE (a.getD i (0,0,0))<;>cases vZ (m.getD i 0)<;>cases r<;>simp only[bG,fZ,av,ay,Bool.and_true,Bool.and_false,Bool.true_and,Bool.false_and,qD hi (show N<9223372036854775808 by omega)]
theorem yJv {k:Nat}(hk:10<k)(a:List qQ)(b:EQ)(m:AC)(p:EQ):AB k a b m p=some (j5 a b m p):=by
 unfold AB;have l1:decide ((a.length:Int)<1)= !decide (1≤a.length):=by
  by_cases h:1≤a.length
  ·rw[ag h,ai (by omega)];rfl
  ·rw[ai h,ag (by omega)];rfl
 have l2:decide ((a.length:Int)>6)= !decide (a.length≤6):=by
  by_cases h:a.length≤6
  ·rw[ag h,ai (by omega)];rfl
  ·rw[ai h,ag (by omega)];rfl
 rw[l1,l2];unfold j5;dsimp only;by_cases h1:1≤a.length
 case neg=>rw[ai h1];rfl
 by_cases h2:a.length≤6
 case neg=>rw[ag h1,ai h2];rfl
 rw[ag h1,ag h2];simp only[bG,ay,Bool.true_and];rw[yJi (by omega) (by omega),yJi (by omega) (by omega)];simp only[ak,ot];cases hb:kF a.length b with
 |false=>rfl
 |true=>
  cases hp:kF a.length p with
  |false=>rfl
  |true=>
   by_cases hm:m.length=a.length
   case neg=>simp only[ai hm];rfl
   simp only[kF,bJ,bO,wI] at hb hp;simp only[hm,decide_true,bG,ay,Bool.true_and];rw[vCm (by omega) (by omega) rfl hm hb.1 hp.1 hb.2 hp.2];have e:(qA (fun i=>jE (a.getD i (0,0,0))) a.length 0&&(qA (fun i=>vZ (m.getD i 0)) a.length 0&&(mV vZ a.length b&&(mV fH a.length p&&sM a.length p))))=
     qA (fun i=>jE (a.getD i (0,0,0))&&(vZ (m.getD i 0)&&qA (fun j=>vZ (cell b i j)&&(fH (cell p i j)&&decide (cell p i j=zA (0-cell p j i)))) a.length 0)) a.length 0:=by
    rw[Bool.eq_iff_iff];simp only[mV,sM,bJ,wI];constructor
    ·rintro⟨h1,h2,h3,h4,h5⟩ i hi
     exact⟨h1 i hi,h2 i hi,fun j hj=>⟨h3 i hi j hj,h4 i hi j hj,h5 i hi j hj⟩⟩
    ·intro h;exact⟨fun i hi=>(h i hi).1,fun i hi=>(h i hi).2.1,fun i hi j hj=>((h i hi).2.2 j hj).1,fun i hi j hj=>((h i hi).2.2 j hj).2.1,fun i hi j hj=>((h i hi).2.2 j hj).2.2⟩
   rw[e];generalize qA _ _ _=r;cases r<;>rfl
theorem vGy {k}{a:List qQ}(hk:a.length<k)(hl:a.length<9223372036854775808):JX k a=some (!qA (fun i=>jE (a.getD i (0,0,0))) a.length 0):=by
 obtain ⟨x, h1, h2⟩ := sJ (L := fun c i => Fy k c a a.length i) (N := a.length) (fun i => !jE (a.getD i (0, 0, 0))) (fun c=>by
  show AE k _ a a.length a.length=_;unfold AE;simp) (fun c i hi=>by
  show AE k _ a a.length i=_;unfold AE P7;simp[zW,qD hi hl,ag hi,yLt]) hk
 unfold JX P8;grind
theorem yVs {k a}(hk:a.length<k)(hl:a.length<9223372036854775808):JY k a=some (!qA (fun i=>vZ (a.getD i 0)) a.length 0):=by
 obtain ⟨x, h1, h2⟩ := sJ (L := fun c i => Fz k c a a.length i) (N := a.length) (fun i => !vZ (a.getD i 0)) (fun c=>by
  show AF k _ a a.length a.length=_;unfold AF;simp) (fun c i hi=>by
  show AF k _ a a.length i=_;unfold AF P9;simp[zW,qD hi hl,ag hi,yXt]) hk
 unfold JY Qa;grind
theorem yU9 {k a}(hk:a.length<k)(hl:a.length<9223372036854775808):JZ k a=some (!qA (fun i=>fH (a.getD i 0)) a.length 0):=by
 obtain ⟨x, h1, h2⟩ := sJ (L := fun c i => FA k c a a.length i) (N := a.length) (fun i => !fH (a.getD i 0)) (fun c=>by
  show AG k _ a a.length a.length=_;unfold AG;simp) (fun c i hi=>by
  show AG k _ a a.length i=_;unfold AG Qb;simp[zW,qD hi hl,ag hi,yUq]) hk
 unfold JZ Qc;grind
theorem yOq {k n:Nat}(hk:n<k)(hn:n≤1000)(a:AC):FB k a n=some (decide (a.length=n)&&qA (fun i=>vZ (a.getD i 0)) n 0):=by
 unfold FB;simp only[ot];by_cases h:a.length=n
 ·rw[yVs (by omega) (by omega)];simp only[h,decide_true,av,ak,Bool.not_not,Bool.true_and]
 ·simp only[ai h,ay,Bool.false_and]
theorem vRg {k n:Nat}(hk:n<k)(hn:n≤1000)(a:AC):J0 k a n=some (decide (a.length=n)&&qA (fun i=>fH (a.getD i 0)) n 0):=by
 unfold J0;simp only[ot];by_cases h:a.length=n
 ·rw[yU9 (by omega) (by omega)];simp only[h,decide_true,av,ak,Bool.not_not,Bool.true_and]
 ·simp only[ai h,ay,Bool.false_and]
theorem vPe {k n:Nat}(hk:n<k)(hn:n≤1000)(m:EQ):J1 k m n=some (decide (m.length=n)&&qA (fun i=>decide ((m.getD i []).length=n)&&qA (fun j=>vZ (cell m i j)) n 0) n 0):=by
 unfold J1;simp only[ot];by_cases h:m.length=n
 ·have := jK (L := fun c i => FC k c n m n i) (N := n) (fun i => decide ((m.getD i []).length = n) && qA (fun j => vZ (cell m i j)) n 0) (.inl ()) (.inr false) (fun c=>by
    show AH k _ n m n n=_;unfold AH;simp only [qM, ai (Nat.lt_irrefl n), ay]) (fun c i hi=>by
    show AH k _ n m n i=_;unfold AH;simp only[zW,qD hi (by omega),qM,aC,h,ag hi,av,yOq hk hn,ak];show(bif !(decide ((m.getD i []).length=n)&&qA (fun j=>vZ (cell m i j)) n 0) then _ else _)=_;generalize (decide ((m.getD i []).length=n)&&qA (fun j=>vZ (cell m i j)) n 0)=r;cases r<;>rfl) hk
  simp only[h,decide_true,bG,ay,Bool.true_and];rw[this];generalize qA _ _ _=r;cases r<;>rfl
 ·simp only[ai h,fZ,av,Bool.false_and]
theorem vLm {k n:Nat}(hk:n<k)(hn:n≤1000)(m:EQ):J2 k m n=some (decide (m.length=n)&&qA (fun i=>decide ((m.getD i []).length=n)&&qA (fun j=>fH (cell m i j)) n 0) n 0):=by
 unfold J2;simp only[ot];by_cases h:m.length=n
 ·have := jK (L := fun c i => FD k c n m n i) (N := n) (fun i => decide ((m.getD i []).length = n) && qA (fun j => fH (cell m i j)) n 0) (.inl ()) (.inr false) (fun c=>by
    show AI k _ n m n n=_;unfold AI;simp only [qM, ai (Nat.lt_irrefl n), ay]) (fun c i hi=>by
    show AI k _ n m n i=_;unfold AI;simp only[zW,qD hi (by omega),qM,aC,h,ag hi,av,vRg hk hn,ak];show(bif !(decide ((m.getD i []).length=n)&&qA (fun j=>fH (cell m i j)) n 0) then _ else _)=_;generalize (decide ((m.getD i []).length=n)&&qA (fun j=>fH (cell m i j)) n 0)=r;cases r<;>rfl) hk
  simp only[h,decide_true,bG,ay,Bool.true_and];rw[this];generalize qA _ _ _=r;cases r<;>rfl
 ·simp only[ai h,fZ,av,Bool.false_and]
theorem vDw {k N i:Nat}(hk:N<k)(hN:N≤1000)(hi:i<N){p q:EQ}{u:Int}(hp:p.length=N)(mW:∀j,j<N→(p.getD j []).length=N):
  AJ k k p i q u i (p.getD i []) N 0=some (bif qA (fun j=>decide (cell p j i=zA (0-cell p i j))) N 0 then .inl (p,q,u,(i:Int)) else .inr false):=by
 refine jK (L:=fun c j=>AJ k c p i q u i (p.getD i []) N j) (N:=N) _ (.inl (p,q,u,(i:Int))) (.inr false) (fun c=>?_) (fun c j hj=>?_) hk
 ·show AK k _ p i q u i (p.getD i []) N N=_;unfold AK;simp only[qM,ai (Nat.lt_irrefl N),ay]
 ·show AK k _ p i q u i (p.getD i []) N j=_;unfold AK;simp only[zW,qD hj (show N<9223372036854775808 by omega),qM,aC,hp,mW i hi,mW j hj,ag hj,ag hi,av];show(bif !decide (cell p j i=zA (0-cell p i j)) then _ else _)=_;generalize decide (cell p j i=zA (0-cell p i j))=r;cases r<;>rfl
theorem vK1 {k N}(hk:N<k)(hN:N≤1000){p}(hp:p.length=N)(mW:∀j,j<N→(p.getD j []).length=N):
  J3 k p=some (sM N p):=by
 have := jK (L := fun c i => FE k c p p N i) (N := N) (fun i => qA (fun j => decide (cell p j i = zA (0 - cell p i j))) N 0) (.inl ()) (.inr false) (fun c=>by
   show AL k _ p p N N=_;unfold AL;simp) (fun c i hi=>by
   show AL k _ p p N i=_;unfold AL;simp only[zW,qM,aC,hp,mW i hi,ag hi,vDw hk hN hi hp mW,ak];generalize qA _ N 0=r;cases r<;>simp[qD hi (by grind)]) hk
 unfold J3;have e:qA (fun i=>qA (fun j=>decide (cell p j i=zA (0-cell p i j))) N 0) N 0=sM N p:=by
  rw[Bool.eq_iff_iff];simp[sM,wI];grind
 grind
theorem yL2 {k:Nat}(hk:10<k)(a:List qQ)(b:EQ)(m:AC)(p:EQ):v9 k a b m p=some (j5 a b m p):=by
 unfold v9;have l1:decide ((a.length:Int)<1)= !decide (1≤a.length):=by
  by_cases h:1≤a.length
  ·rw[ag h,ai (by omega)];rfl
  ·rw[ai h,ag (by omega)];rfl
 have l2:decide ((a.length:Int)>6)= !decide (a.length≤6):=by
  by_cases h:a.length≤6
  ·rw[ag h,ai (by omega)];rfl
  ·rw[ai h,ag (by omega)];rfl
 rw[l1,l2];unfold j5;dsimp only;by_cases h1:1≤a.length
 case neg=>rw[ai h1];rfl
 by_cases h2:a.length≤6
 case neg=>rw[ag h1,ai h2];rfl
 rw[ag h1,ag h2];simp only[bG,ay,Bool.true_and];rw[vGy (by omega) (by omega),vPe (by omega) (by omega),yOq (by omega) (by omega),vLm (by omega) (by omega)];simp only[ak];generalize hA:qA (fun i=>jE (a.getD i (0,0,0))) a.length 0=A;have sq:∀(q:Int→Bool) (m:EQ),(decide (m.length=a.length)&&qA (fun i=>decide ((m.getD i []).length=a.length)&&qA (fun j=>q (cell m i j)) a.length 0) a.length 0)=(kF a.length m&&mV q a.length m):=by
  intro q m;rw[Bool.eq_iff_iff];simp only[kF,mV,bJ,bO,wI];exact⟨fun h=>⟨⟨h.1,fun i hi=>(h.2 i hi).1⟩,fun i hi=>(h.2 i hi).2⟩,fun h=>⟨h.1.1,fun i hi=>⟨h.1.2 i hi,h.2 i hi⟩⟩⟩
 rw[sq vZ b,sq fH p];cases hp:kF a.length p with
 |false=>
  cases A<;>cases kF a.length b<;>cases mV vZ a.length b<;>cases decide (m.length=a.length)<;>cases qA (fun i=>vZ (m.getD i 0)) a.length 0<;>rfl
 |true=>
  simp only[kF,bJ,bO,wI] at hp;rw[vK1 (N:=a.length) (by omega) (by omega) hp.1 hp.2];cases A<;>cases kF a.length b<;>cases mV vZ a.length b<;>cases decide (m.length=a.length)<;>cases qA (fun i=>vZ (m.getD i 0)) a.length 0<;>cases mV fH a.length p<;>cases sM a.length p<;>rfl
theorem yMd {k N:Nat}{s}(hN:s.length=N)(hl:N≤1000)(hr:∀i,i<N→(s.getD i []).length≤1000):∀c i n,i+c=N→c<n→FF k n s i (s.take i)=some s
 |0,i,n,h,hn=>by
  obtain⟨n,rfl⟩:∃m,n=m+1:=⟨n-1,by omega⟩;show AM k _ s i (s.take i)=_;unfold AM;grind
 |c+1,i,n,h,hn=>by
  obtain⟨n,rfl⟩:∃m,n=m+1:=⟨n-1,by omega⟩;show AM k _ s i (s.take i)=_;unfold AM;have hi:i<s.length:=by omega
  have h1:=hr i (by omega);have e1:zR (0+(s.getD i []).length) 8=true:=qT (by omega) (by omega);have e2:zR ((s.take i).length+1) 24=true:=qT (by grind) (by grind);simp only[zW,qD hi (by grind),qM,aC,ag hi,e1,e2];rw[ga s i [] hi];exact yMd hN hl hr c (i+1) n (by omega) (by omega)
theorem yGo {k s}(hl:s.length≤1000)(hk:s.length<k)(hr:∀i,i<s.length→(s.getD i []).length≤1000):FG k s=some s:=by
 unfold FG;have:=yMd (k:=k) rfl hl hr s.length 0 k (by omega) hk;simp_all
theorem yFa {k N:Nat}{s}(hN:s.length=N)(hl:N≤1000)(hr:∀i,i<N→(s.getD i []).length≤1000):∀c i n,i+c=N→c<n→FH k n s N i (s.take i) N=some (s,N)
 |0,i,n,h,hn=>by
  obtain⟨n,rfl⟩:∃m,n=m+1:=⟨n-1,by omega⟩;show AN k _ s N i (s.take i) N=_;unfold AN;grind
 |c+1,i,n,h,hn=>by
  obtain⟨n,rfl⟩:∃m,n=m+1:=⟨n-1,by omega⟩;show AN k _ s N i (s.take i) N=_;unfold AN mX;have hi:i<N:=by omega
  have h1:=hr i (by omega);have e1:zR (0+(s.getD i []).length) 8=true:=qT (by omega) (by omega);have e2:Nat.beq i (s.take i).length=true:=by rw[List.length_take,Nat.min_eq_left (by omega)];simp
  simp only[zW,qD hi (by grind),qM,aC,ag hi,av,e1,e2,hN,ak];rw[ga s i [] (by omega)];exact yFa hN hl hr c (i+1) n (by omega) (by omega)
theorem qU2 {k s}(hl:s.length≤1000)(hk:s.length<k)(hr:∀i,i<s.length→(s.getD i []).length≤1000):FI k s=some s:=by
 unfold FI Qd;have:=yFa (k:=k) rfl hl hr s.length 0 k (by omega) hk;rw[List.take_zero] at this;have e:((0:Nat):Int)=0:=rfl;rw[e] at this;have e1:zR (0+s.length) 24=true:=qT (by omega) (by omega);simp only[e1,av,ak];rw[this];simp only[vH8];simp
structure Sized (a:List qQ) (b:EQ) (m:AC) (p:EQ):Prop where
 n1:1≤a.length
 n6:a.length≤6
 bl:b.length=a.length
 br:∀i,i<a.length→(b.getD i []).length=a.length
 ml:m.length=a.length
 pl:p.length=a.length
 pr:∀i,i<a.length→(p.getD i []).length=a.length
structure wB (a:List qQ) (b:EQ) (m:AC) (p:EQ):Prop extends Sized a b m p where
 acct:∀i,i<a.length→jE (a.getD i (0,0,0))=true
 mul:∀i,i<a.length→vZ (m.getD i 0)=true
 bil:∀i,i<a.length→∀j,j<a.length→vZ (cell b i j)=true
 net:∀i,i<a.length→∀j,j<a.length→fH (cell p i j)=true
 turn:∀i,i<a.length→∀j,j<a.length→cell p i j=zA (0-cell p j i)
theorem FJ {a:List qQ}{b:EQ}{m:AC}{p:EQ}:j5 a b m p=true↔wB a b m p:=by
 unfold j5;simp only[bJ,bO,kF,mV,sM,wI];constructor
 ·rintro⟨h1,h2,⟨h3,h4⟩,⟨h5,h6⟩,h7,h8,h9,h10,h11,h12⟩
  exact{n1:=h1,n6:=h2,bl:=h3,br:=h4,ml:=h7,pl:=h5,pr:=h6,acct:=h8,mul:=h9,bil:=h10,net:=h11,turn:=h12}
 ·intro h;exact⟨h.n1,h.n6,⟨h.bl,h.br⟩,⟨h.pl,h.pr⟩,h.ml,h.acct,h.mul,h.bil,h.net,h.turn⟩
theorem FK {k}(hk:10<k){a b m p}(h:Sized a b m p):mc k a b m p=some (a,b,m,p):=by
 obtain⟨h1,h2,h3,h4,h5,h6,h7⟩:=h;unfold mc;have e1:zR (0+a.length) 24=true:=qT (by omega) (by omega);have e2:zR (0+m.length) 8=true:=qT (by omega) (by omega);rw[yGo (s:=b) (by omega) (by omega) (by grind),yGo (s:=p) (by omega) (by omega) (by grind)];grind
theorem FL {k}(hk:10<k){a b m p}(h:Sized a b m p):eP k a b m p=some (a,b,m,p):=by
 obtain⟨h1,h2,h3,h4,h5,h6,h7⟩:=h;unfold eP Qe mX;have e1:zR (0+a.length) 24=true:=qT (by omega) (by omega);have e2:zR (0+m.length) 8=true:=qT (by omega) (by omega);rw[qU2 (s:=b) (by omega) (by omega) (by grind),qU2 (s:=p) (by omega) (by omega) (by grind)];grind
theorem FM {α:Type} d [DecidableEq α]{a b:List α}(h:a.length=b.length):qA (fun i=>decide (a.getD i d=b.getD i d)) a.length 0=decide (a=b):=by
 rw[Bool.eq_iff_iff,wI];simp;exact⟨fun h'=>Av d h h',by grind⟩
theorem J4 {k:Nat}{a b:AC}(hk:a.length<k)(hl:a.length<9223372036854775808):pS k a b=some (decide (a=b)):=by
 unfold pS;simp only[ot];by_cases h:a.length=b.length
 ·have := jK (L := fun c i => FN k c a b i) (N := a.length) (fun i => decide (a.getD i 0 = b.getD i 0)) (.inl ()) (.inr false) (fun c=>by
    show AO k _ a b a.length=_;unfold AO;simp only [qM, ai (Nat.lt_irrefl _), ay]) (fun c i hi=>by
    show AO k _ a b i=_;unfold AO;simp only[zW,qD hi hl,qM,aC,←h,ag hi,av];cases decide (a.getD i 0=b.getD i 0)<;>rfl) hk
  rw[FM 0 h] at this;simp only[h,decide_true,bG,ay];rw[this];cases decide (a=b)<;>rfl
 ·simp only[ai h,fZ,av];rw[ai fun e=>h (by rw[e])]
theorem Qf {k:Nat}{a b:EQ}(hk:a.length<k)(hl:a.length<9223372036854775808)(hr:∀i,i<a.length→(a.getD i []).length<k∧(a.getD i []).length<9223372036854775808):wa k a b=some (decide (a=b)):=by
 unfold wa;simp only[ot];by_cases h:a.length=b.length
 ·have := jK (L := fun c i => FO k c a b i) (N := a.length) (fun i => decide (a.getD i [] = b.getD i [])) (.inl ()) (.inr false) (fun c=>by
    show AP k _ a b a.length=_;unfold AP;simp only [qM, ai (Nat.lt_irrefl _), ay]) (fun c i hi=>by
    show AP k _ a b i=_;unfold AP;simp only[zW,qD hi hl,qM,aC,←h,ag hi,av,J4 (hr i hi).1 (hr i hi).2,ak];cases decide (a.getD i []=b.getD i [])<;>rfl) hk
  rw[FM [] h] at this;simp only[h,decide_true,bG,ay];rw[this];cases decide (a=b)<;>rfl
 ·simp only[ai h,fZ,av];rw[ai fun e=>h (by rw[e])]
theorem vR6 {k:Nat}(hk:10<k){a:List qQ}{b:EQ}{m:AC}{p:EQ}(h:Sized a b m p)(a':List qQ)(b':EQ)(m':AC)(p':EQ):
  FP k a b m p a' b' m' p'=some (decide (a=a')&&(decide (b=b')&&(decide (p=p')&&decide (m=m')))):=by
 obtain⟨h1,h2,h3,h4,h5,h6,h7⟩:=h;unfold FP;simp only[ot];by_cases hl:a.length=a'.length
 ·rw[Qf (a:=b) (by omega) (by omega) (fun i hi=>by rw[h4 i (by omega)];omega),Qf (a:=p) (by omega) (by omega) (fun i hi=>by rw[h7 i (by omega)];omega),J4 (by omega) (by omega)];have := jK (L := fun c i => FQ k c i a b m p a' b' m' p') (N := a.length) (fun i => decide (a.getD i (0, 0, 0) = a'.getD i (0, 0, 0))) (.inl ()) (.inr false) (fun c=>by
    show AQ k _ a.length a b m p a' b' m' p'=_;unfold AQ;simp only [qM, ai (Nat.lt_irrefl _), ay]) (fun c i hi=>by
    show AQ k _ i a b m p a' b' m' p'=_;unfold AQ;simp only[zW,qD hi (show a.length<9223372036854775808 by omega),qM,aC,←hl,ag hi,av];have e:decide (a.getD i (0,0,0)=a'.getD i (0,0,0))=(decide ((a.getD i (0,0,0)).1=(a'.getD i (0,0,0)).1)&&(decide ((a.getD i (0,0,0)).2.1=(a'.getD i (0,0,0)).2.1)&&decide ((a.getD i (0,0,0)).2.2=(a'.getD i (0,0,0)).2.2))):=by
     rw[Bool.eq_iff_iff];simp only[bJ,bO];exact⟨fun h=>by rw[h];exact⟨rfl,rfl,rfl⟩,fun h=>Prod.ext h.1 (Prod.ext h.2.1 h.2.2)⟩
    rw[e];generalize (decide ((a.getD i (0,0,0)).1=(a'.getD i (0,0,0)).1)&&_)=r;cases r<;>rfl) (show a.length<k by omega)
  rw[FM (0,0,0) hl] at this;simp only[hl,decide_true,bG,ay,ak];have e0:((0:Nat):Int)=0:=rfl;rw[this];cases decide (b=b')<;>cases decide (p=p')<;>cases decide (m=m')<;>cases decide (a=a')<;>rfl
 ·simp only[ai hl,fZ,av];rw[ai fun e=>hl (by rw[e])];rfl
abbrev pd:zG:=(0,(0,(0,(0,(0,(0,0))))))
abbrev ad:qQ:=(0,(0,0))
def ll (n:Nat)(p:zG):Bool:=decide (p.2.1≥0)&&(decide (p.2.1<(n:Int))&&(decide (p.2.2.1≥0)&&(decide (p.2.2.1<(n:Int))&&(!decide (p.2.1=p.2.2.1)&&(decide (p.2.2.2.1≥1)&&(decide (p.2.2.2.1≤1099511627776)&&(decide (p.2.2.2.2.1≥1)&&decide (p.2.2.2.2.1≤3))))))))
structure qY (n:Nat) (p:zG):Prop where
 f0:0≤p.2.1
 f1:p.2.1<n
 t0:0≤p.2.2.1
 t1:p.2.2.1<n
 ne:p.2.1≠p.2.2.1
 a1:1≤p.2.2.2.1
 a2:p.2.2.2.1≤1099511627776
 c1:1≤p.2.2.2.2.1
 c3:p.2.2.2.2.1≤3
theorem J5 {n p}:ll n p=true↔qY n p:=by
 unfold ll;simp;exact⟨fun⟨h1,h2,h3,h4,h5,h6,h7,h8,h9⟩=>⟨h1,h2,h3,h4,h5,h6,h7,h8,h9⟩,fun⟨h1,h2,h3,h4,h5,h6,h7,h8,h9⟩=>by grind⟩
theorem J6 k (a:List qQ) b m p i f t am c s ti:AR k a b m p i f t am c s ti=some (ll a.length (i,f,t,am,c,s,ti)):=by
 unfold AR ll;grind
theorem yIj k (a:List qQ) b m p i f t am c s ti:J7 k a b m p i f t am c s ti=some (ll a.length (i,f,t,am,c,s,ti)):=J6 k a b m p i f t am c s ti
def lq (n:Nat)(l:List zG):Bool:=qA (fun i=>ll n (l.getD i pd)) l.length 0
theorem wb {n l}:lq n l=true↔∀p∈l,qY n p:=by
 unfold lq;rw[wI];constructor
 ·intro h p hp;obtain⟨i,hi,rfl⟩:=List.getElem_of_mem hp;have:=h i hi;rw[List.getD_eq_getElem?_getD,List.getElem?_eq_getElem hi] at this;exact J5.1 this
 ·intro h i hi;exact J5.2 (by grind)
theorem vMo {k}{l:List zG}(hk:l.length<k)(hl:l.length<9223372036854775808)(a:List qQ) b m p:J8 k l a b m p=some (!lq a.length l):=by
 obtain ⟨x, h1, h2⟩ := sJ (L := fun c i => FR k c l l.length i a b m p) (N := l.length) (fun i => !ll a.length (l.getD i pd)) (fun c=>by
  show AT k _ l l.length l.length a b m p=_;unfold AT;simp) (fun c i hi=>by
  show AT k _ l l.length i a b m p=_;unfold AT Qg;simp[zW,qD hi hl,ag hi,J6]) hk
 unfold J8 Qh;unfold lq;grind
theorem yDo {k}{l:List zG}(hk:l.length<k)(hl:l.length<9223372036854775808)(a:List qQ) b m p:FT k a b m p l=some (lq a.length l&&decide (l.length≤64)):=by
 unfold FT;have := jK (L := fun c i => FU k c l i a b m p) (N := l.length) (fun i => ll a.length (l.getD i pd)) (.inl l) (.inr false) (fun c=>by
  show AU k _ l l.length a b m p=_;unfold AU;simp) (fun c i hi=>by
  show AU k _ l i a b m p=_;unfold AU;simp only[zW,qD hi hl,qM,ag hi,yIj];simp) hk
 unfold lq;have e:decide (((l.length:Nat):Int)≤64)=decide (l.length≤64):=by
  grind
 grind
def gB (i:Nat)(p:zG):Int:=(if p.2.2.1=i then p.2.2.2.1 else 0)-(if p.2.1=i then p.2.2.2.1 else 0)
def gS (i j:Nat)(p:zG):Int:=if p.2.1=i∧p.2.2.1=j then p.2.2.2.1 else 0
def gR (i:Nat)(p:zG):Int:=if p.2.1=i∧p.2.2.2.2.1≠3 then p.2.2.2.1 else 0
def wG (r s:Int):Int:=if s≥r then 0 else r-s
theorem vQy {r s t}(hs:0≤s)(ht:0≤t):wG (wG r s) t=wG r (s+t):=by
 unfold wG;omega
theorem Qi {r}(hr:0≤r):wG r 0=r:=by
 unfold wG;omega
theorem vEd {r s}:0≤wG r s:=by
 unfold wG;omega
theorem vAc {r s}(hr:0≤r)(hs:0≤s):wG r s≤r:=by
 unfold wG;omega
section
variable {n:Nat} {p:zG}
theorem vCr (h:qY n p) i:-1099511627776≤gB i p∧gB i p≤1099511627776:=by
 have h1:=h.a1;have h2:=h.a2;unfold gB;omega
theorem Qj (h:qY n p) i j:0≤gS i j p∧gS i j p≤1099511627776:=by
 have h1:=h.a1;have h2:=h.a2;unfold gS;omega
theorem J9 (h:qY n p) i:0≤gR i p∧gR i p≤1099511627776:=by
 have h1:=h.a1;have h2:=h.a2;unfold gR;omega
end
def vK (n:Nat)(l:List zG):Prop:=(∀p∈l,qY n p)∧l.length≤64
theorem Qk {n l}(h:vK n l) i:-70368744177664≤zM (gB i) l∧zM (gB i) l≤70368744177664:=by
 have h1:=vy (g:=gB i) (A:=1099511627776) fun p hp=>vCr (h.1 p hp) i
 have h2:=h.2;omega
theorem pT {n l}(h:vK n l) i j:0≤zM (gS i j) l∧zM (gS i j) l≤70368744177664:=by
 have h1:=vy (g:=gS i j) (A:=1099511627776) fun p hp=>by have:=Qj (h.1 p hp) i j;omega
 have h0:=sK (g:=gS i j) fun p hp=>(Qj (h.1 p hp) i j).1
 have h2:=h.2;omega
theorem wc {n l}(h:vK n l) i:0≤zM (gR i) l∧zM (gR i) l≤70368744177664:=by
 have h1:=vy (g:=gR i) (A:=1099511627776) fun p hp=>by have:=J9 (h.1 p hp) i;omega
 have h0:=sK (g:=gR i) fun p hp=>(J9 (h.1 p hp) i).1
 have h2:=h.2;omega
theorem vK.take {n l}(h:vK n l) i:vK n (l.take i):=⟨fun p hp=>h.1 p (by grind),by rw[List.length_take];have:=h.2;omega⟩
structure pU (n:Nat) (a:List qQ) (p:EQ) (l:List zG) (a':List qQ) (p':EQ):Prop where
 al:a'.length=n
 acct:∀i,i<n→a'.getD i ad=((a.getD i ad).1+zM (gB i) l,(a.getD i ad).2.1,wG (a.getD i ad).2.2 (zM (gR i) l))
 pl:p'.length=n
 pr:∀i,i<n→(p'.getD i []).length=n
 cell:∀i,i<n→∀j,j<n→cell p' i j=cell p i j+zM (gS i j) l-zM (gS j i) l
theorem vQz {n p q}(hp:p.length=n)(hq:q.length=n)(mW:∀i,i<n→(p.getD i []).length=n)(hqr:∀i,i<n→(q.getD i []).length=n)(h:∀i,i<n→∀j,j<n→cell p i j=cell q i j):p=q:=
 Av [] (by omega) fun i hi=>Av 0 (by simp_all) fun j hj=>h i (by omega) j (by simp_all)
theorem pU.same {n a a1 a2 p p1 p2 l}(x:pU n a p l a1 p1)(y:pU n a p l a2 p2):a1=a2∧p1=p2:=
 ⟨Av ad (by rw[x.al,y.al]) fun i hi=>by have:=x.al;rw[x.acct i (by omega),y.acct i (by omega)],
  vQz x.pl y.pl x.pr y.pr fun i hi j hj=>by rw[x.cell i hi j hj,y.cell i hi j hj]⟩
structure Ka (n:Nat) (a:List qQ) (p:EQ):Prop where
 al:a.length=n
 pl:p.length=n
 pr:∀i,i<n→(p.getD i []).length=n
 bal:∀i,i<n→-4611686018427387904<(a.getD i ad).1∧(a.getD i ad).1<4611686018427387904
 res:∀i,i<n→0≤(a.getD i ad).2.2∧(a.getD i ad).2.2≤2305843009213693952
 net:∀i,i<n→∀j,j<n→-72057594037927936<cell p i j∧cell p i j<72057594037927936
theorem wB.nums {a b m p}(h:wB a b m p):Ka a.length a p where
 al:=rfl
 pl:=h.pl
 pr:=h.pr
 bal:=fun i hi=>by
  have:=h.acct i hi;show-4611686018427387904<(a.getD i (0,0,0)).1∧(a.getD i (0,0,0)).1<4611686018427387904;simp only[jE,bJ,bO] at this;omega
 res:=fun i hi=>by
  have:=h.acct i hi;show 0≤(a.getD i (0,0,0)).2.2∧(a.getD i (0,0,0)).2.2≤2305843009213693952;simp only[jE,bJ,bO] at this;omega
 net:=fun i hi j hj=>by
  have:=h.net i hi j hj;simp[fH] at this;omega
theorem Ql {m f t i j x}(hf:f<m.length)(ht:t<(m.getD f []).length):cell (m.set f ((m.getD f []).set t x)) i j=if i=f∧j=t then x else cell m i j:=by
 unfold cell;grind
theorem Kb {n}{m:EQ}{f t x}(hm:m.length=n)(hr:∀i,i<n→(m.getD i []).length=n)(hf:f<n):∀i,i<n→((m.set f ((m.getD f []).set t x)).getD i []).length=n:=by
 grind
def AV (p:zG)(r:List qQ):List qQ:=
 let y0:=r.set p.2.1.toNat (zA ((r.getD p.2.1.toNat ad).1-p.2.2.2.1),(r.getD p.2.1.toNat ad).2);let y1:=y0.set p.2.2.1.toNat (zA ((y0.getD p.2.2.1.toNat ad).1+p.2.2.2.1),(y0.getD p.2.2.1.toNat ad).2)
 bif !decide (p.2.2.2.2.1=3) then y1.set p.2.1.toNat ((y1.getD p.2.1.toNat ad).1,((y1.getD p.2.1.toNat ad).2.1,vi false (zA ((y1.getD p.2.1.toNat ad).2.2-p.2.2.2.1)) 0)) else y1
def sQ (p:zG)(m:EQ):EQ:=
 let y3:=m.set p.2.1.toNat ((m.getD p.2.1.toNat []).set p.2.2.1.toNat (zA ((m.getD p.2.1.toNat []).getD p.2.2.1.toNat 0+p.2.2.2.1)))
 y3.set p.2.2.1.toNat ((y3.getD p.2.2.1.toNat []).set p.2.1.toNat (zA ((y3.getD p.2.2.1.toNat []).getD p.2.1.toNat 0-p.2.2.2.1)))
theorem vIw p r:(AV p r).length=r.length:=by
 unfold AV;grind
theorem vM5 {n p}(h:qY n p){r}(hr:r.length=n){i}(hi:i<n)(hb:∀i,i<n→-4611826755915743232<(r.getD i ad).1∧(r.getD i ad).1<4611826755915743232)
  (hz:∀i,i<n→0≤(r.getD i ad).2.2∧(r.getD i ad).2.2≤2305843009213693952):(AV p r).getD i ad=((r.getD i ad).1+gB i p,(r.getD i ad).2.1,wG (r.getD i ad).2.2 (gR i p)):=by
 obtain⟨f0,f1,t0,t1,ne,a1,a2,c1,c3⟩:=h;obtain⟨f,hf⟩:∃f:Nat,p.2.1=f:=⟨p.2.1.toNat,by omega⟩;obtain⟨t,ht⟩:∃t:Nat,p.2.2.1=t:=⟨p.2.2.1.toNat,by omega⟩;have Kc:f≠t:=by omega
 have fI:f<n:=by omega
 have fh:t<n:=by omega
 have bf:=hb f fI;have bt:=hb t fh;have zf:=hz f fI;have e1:(r.set f (zA ((r.getD f ad).1-p.2.2.2.1),(r.getD f ad).2)).getD t ad=r.getD t ad:=by rw[jD,if_neg (fun e=>Kc e.1)]
 have key:∀j,j<n→((r.set f (zA ((r.getD f ad).1-p.2.2.2.1),(r.getD f ad).2)).set t (zA ((r.getD t ad).1+p.2.2.2.1),(r.getD t ad).2)).getD j ad=((r.getD j ad).1+gB j p,(r.getD j ad).2):=by
  intro j hj;unfold gB;rw[hf,ht,jD];by_cases hjt:t=j
  ·subst hjt;rw[if_pos (by grind),if_pos rfl,if_neg (by omega),zN (by omega) (by omega)];simp
  ·rw[if_neg (fun e=>hjt e.1),if_neg (by omega),jD];by_cases hjf:f=j
   ·subst hjf;rw[if_pos ⟨rfl,by omega⟩,if_pos rfl,zN (by omega) (by omega)];simp only[Int.zero_sub];rfl
   ·rw[if_neg (fun e=>hjf e.1),if_neg (by omega)];simp
 unfold AV;simp only[hf,ht,aC,e1];unfold gR;cases hc:decide (p.2.2.2.2.1=3) with
 |true=>
  have jh:p.2.2.2.2.1=3:=by simpa using hc
  simp only[bG,ay];rw[key i hi,if_neg (fun e=>e.2 jh),Qi (hz i hi).1]
 |false=>
  have jh:p.2.2.2.2.1≠3:=by simpa using hc
  simp only[fZ,av];rw[jD];by_cases hif:f=i
  ·subst hif;rw[if_pos (by grind),key f fI,if_pos ⟨hf,jh⟩];have:vi false (zA ((r.getD f ad).2.2-p.2.2.2.1)) 0=wG (r.getD f ad).2.2 p.2.2.2.1:=by
    rw[zN (by omega) (by omega)];unfold vi wG;grind
   rw[this]
  ·rw[if_neg (fun e=>hif e.1),key i hi,if_neg (by omega),Qi (hz i hi).1]
theorem yDb {n:Nat}{p:zG}(h:qY n p){m:EQ}(hm:m.length=n)(hr:∀i,i<n→(m.getD i []).length=n)(hb:∀i,i<n→∀j,j<n→-72128000000000000<cell m i j∧cell m i j<72128000000000000):
  (sQ p m).length=n∧(∀i,i<n→((sQ p m).getD i []).length=n)∧∀i,i<n→∀j,j<n→cell (sQ p m) i j=cell m i j+gS i j p-gS j i p:=by
 obtain⟨f0,f1,t0,t1,ne,a1,a2,c1,c3⟩:=h;obtain⟨f,hf⟩:∃f:Nat,p.2.1=f:=⟨p.2.1.toNat,by omega⟩;obtain⟨t,ht⟩:∃t:Nat,p.2.2.1=t:=⟨p.2.2.1.toNat,by omega⟩;have Kc:f≠t:=by omega
 have fI:f<n:=by omega
 have fh:t<n:=by omega
 unfold sQ;simp only[hf,ht,aC];have r1:=Kb (x:=zA ((m.getD f []).getD t 0+p.2.2.2.1)) (t:=t) hm hr fI;have c1:∀i j,cell (m.set f ((m.getD f []).set t (zA ((m.getD f []).getD t 0+p.2.2.2.1)))) i j=if i=f∧j=t then zA (cell m f t+p.2.2.2.1) else cell m i j:=fun i j=>Ql (by omega) (by rw[hr f fI];omega)
 refine⟨by simp only[List.length_set];exact hm,by grind,fun i hi j hj=>?_⟩;rw[Ql (by rw[List.length_set];omega) (by rw[r1 t fh];omega)];have e2:((m.set f ((m.getD f []).set t (zA ((m.getD f []).getD t 0+p.2.2.2.1)))).getD t []).getD f 0=cell m t f:=by
  show cell _ t f=_;simp_all
 rw[e2,c1];unfold gS;rw[hf,ht];have b1:=hb f fI t fh;have b2:=hb t fh f fI;by_cases h1:i=t∧j=f
 ·obtain⟨rfl,rfl⟩:=h1;rw[if_pos ⟨rfl,rfl⟩,if_neg (by omega),if_pos ⟨rfl,rfl⟩,zN (by omega) (by omega)];omega
 ·rw[if_neg h1];by_cases h2:i=f∧j=t
  ·obtain⟨rfl,rfl⟩:=h2;rw[if_pos ⟨rfl,rfl⟩,if_pos ⟨rfl,rfl⟩,if_neg (by omega),zN (by omega) (by omega)];omega
  omega
theorem vNp {k n a b m p l}(hk:l.length<k)(hx:Ka n a p)(hl:vK n l)(b0:List qQ) b1 b2 b3:
  ∃a' p',AW k k l l.length 0 b0 b1 b2 b3 a b m p=some (b0,b1,b2,b3,a',b,m,p')∧pU n a p l a' p':=by
 have := yZ (L := fun c i (s : List qQ × EQ) => AW k c l l.length i b0 b1 b2 b3 s.1 b m s.2) (N := l.length) (fun s => (b0, b1, b2, b3, s.1, b, m, s.2)) (fun i s => pU n a p (l.take i) s.1 s.2) (fun c s hs=>by
   show AY k _ l l.length l.length b0 b1 b2 b3 s.1 b m s.2=_;unfold AY;simp) (fun c i s hi hs=>by
   refine⟨(AV (l.getD i pd) s.1,sQ (l.getD i pd) s.2),?_,?_⟩
   ·show AY k _ l l.length i b0 b1 b2 b3 s.1 b m s.2=_;have bK:qY n (l.getD i pd):=hl.1 _ (eO hi);unfold AY AV sQ;have lr:=hl.2;simp only[zW,qD hi (by grind),qM,aC,ag hi,av];obtain⟨f0,f1,t0,t1,ne,a1,a2,c1,c3⟩:=bK;obtain⟨f,hf⟩:∃f:Nat,(l.getD i pd).2.1=f:=⟨(l.getD i pd).2.1.toNat,by omega⟩;obtain⟨t,ht⟩:∃t:Nat,(l.getD i pd).2.2.1=t:=⟨(l.getD i pd).2.2.1.toNat,by omega⟩;have fI:f<n:=by omega
    have fh:t<n:=by omega
    have r1:=Kb (x:=zA ((s.2.getD f []).getD t 0+(l.getD i pd).2.2.2.1)) (t:=t) hs.pl hs.pr fI;simp only[hf,ht,aC,zW,hs.al,hs.pl,List.length_set,hs.pr f fI,r1 t fh,ag fI,ag fh,av,sR,ak];grind
   ·have bK:qY n (l.getD i pd):=hl.1 _ (eO hi);have aU:=hl.take i;have hp := yDb bK hs.pl hs.pr (fun i' bE j' ku=>by
     rw[hs.cell i' bE j' ku];have h1:=hx.net i' bE j' ku;have h2:=pT aU i' j';have h3:=pT aU j' i';omega)
    refine⟨by rw[vIw];exact hs.al,fun i' bE=>?_,hp.1,hp.2.1,fun i' bE j' ku=>?_⟩
    ·rw [vM5 bK hs.al bE (fun j hj=>by
       rw[hs.acct j hj];have h1:=hx.bal j hj;have h2:=Qk aU j;dsimp only;omega) (fun j hj=>by
       rw[hs.acct j hj];have h1:=hx.res j hj;have h2:=wc aU j;dsimp only;exact⟨vEd,Int.le_trans (vAc h1.1 h2.1) h1.2⟩),hs.acct i' bE,←ga l i pd hi,iy,iy]
     dsimp only[zM];rw[vQy (wc aU i').1 (J9 bK i').1,Int.add_zero,Int.add_zero,Int.add_assoc]
    ·rw[hp.2.2 i' bE j' ku,hs.cell i' bE j' ku,←ga l i pd hi,iy,iy];dsimp only[zM];omega) (s:=(a,p)) hk ⟨hx.al,fun i hi=>by
      rw[List.take_zero];show a.getD i ad=((a.getD i ad).1+0,(a.getD i ad).2.1,wG (a.getD i ad).2.2 0);rw[Qi (hx.res i hi).1,Int.add_zero],hx.pl,hx.pr,fun i hi j hj=>by
      rw[List.take_zero];show cell p i j=cell p i j+0-0;omega⟩
 simp_all
theorem Qm {k n l}(hk:l.length<k)(hl:vK n l)(i j:Nat):sS k l i j=some (zM (gS i j) l):=by
 have lr:=hl.2;obtain ⟨s, h1, h2⟩ := yZ (L := fun c x (s : Int) => FV k c l i j s x) (N := l.length) (fun s => s) (fun x s => s = zM (gS i j) (l.take x)) (fun c s hs=>by
   show AZ k _ l i j s l.length=_;unfold AZ;simp) (fun c x s hx hs=>by
   refine⟨zM (gS i j) (l.take (x+1)),?_,rfl⟩;show AZ k _ l i j s x=_;have hb:=pT (hl.take x) i j;have hm:qY n (l.getD x pd):=hl.1 _ (by grind);have e:zM (gS i j) (l.take (x+1))=s+gS i j (l.getD x pd):=by
    rw[←ga l x pd hx,iy,hs];show _+(_+0)=_;omega
   have w:=zN (x:=s+(l.getD x pd).2.2.2.1) (by have:=hm.a1;omega) (by have:=hm.a2;omega);unfold AZ;simp[zW,qD hx (by grind)];rw[e];unfold gS;grind) (s:=0) hk rfl
 unfold sS;simp_all
theorem yZz {k n l}(hk:l.length<k)(hl:vK n l)(i j:Nat):Ke k l i j=some (zM (gS i j) l-zM (gS j i) l):=by
 unfold Ke;rw[Qm hk hl i j,Qm hk hl j i];have h1:=pT hl i j;have h2:=pT hl j i;simp;rw[zN (by omega) (by omega)]
def gN (i:Nat)(p:zG):Int:=if p.2.1=i∧p.2.2.2.2.1=3 then p.2.2.2.1 else 0
theorem Kf {n p}(h:qY n p) i:0≤gN i p∧gN i p≤1099511627776:=by
 have h1:=h.a1;have h2:=h.a2;unfold gN;omega
theorem yD7 {n l}(h:vK n l) i:0≤zM (gN i) l∧zM (gN i) l≤70368744177664:=by
 have h1:=vy (g:=gN i) (A:=1099511627776) fun p hp=>by have:=Kf (h.1 p hp) i;omega
 have h0:=sK (g:=gN i) fun p hp=>(Kf (h.1 p hp) i).1
 have h2:=h.2;omega
theorem yIq {k n:Nat}{l}(hk:l.length<k)(hl:vK n l)(i:Nat):FW k l i=some (zM (gN i) l,zM (gR i) l):=by
 have lr:=hl.2;obtain ⟨s, h1, h2⟩ := yZ (L := fun c x (s : Int × Int) => FX k c l i s.1 s.2 x) (N := l.length) (fun s => s) (fun x s => s = (zM (gN i) (l.take x), zM (gR i) (l.take x))) (fun c s hs=>by
   show A0 k _ l i s.1 s.2 l.length=_;unfold A0;simp) (fun c x s hx hs=>by
   refine⟨(zM (gN i) (l.take (x+1)),zM (gR i) (l.take (x+1))),?_,rfl⟩;show A0 k _ l i s.1 s.2 x=_;have hb:=yD7 (hl.take x) i;have bD:=wc (hl.take x) i;have hm:qY n (l.getD x pd):=hl.1 _ (by grind);have e:zM (gN i) (l.take (x+1))=s.1+gN i (l.getD x pd):=by
    rw[←ga l x pd hx,iy,hs];show _+(_+0)=_;omega
   have e':zM (gR i) (l.take (x+1))=s.2+gR i (l.getD x pd):=by
    rw[←ga l x pd hx,iy,hs];show _+(_+0)=_;omega
   have w:=zN (x:=s.1+(l.getD x pd).2.2.2.1) (by have:=hm.a1;grind) (by have:=hm.a2;grind);have w':=zN (x:=s.2+(l.getD x pd).2.2.2.1) (by have:=hm.a1;rw[hs];omega) (by have:=hm.a2;grind);unfold A0;simp only[zW,qD hx (by grind),qM,av];rw[e,e'];unfold gN gR;grind) (s:=(0,0)) hk rfl
 unfold FW;simp_all
theorem yY0 {k n l}(hk:l.length<k)(hl:vK n l)(i:Nat):Kg k l i=some (zM (gR i) l):=by
 unfold Kg;rw[yIq hk hl i];rfl
theorem yIu k b c r s (h:-9223372036854775808≤r-s)(h':r<9223372036854775808)(hs:0≤s):FY k b c r s=some (wG r s):=by
 unfold FY wG;by_cases e:s≥r
 ·simp_all
 ·rw[ai e,if_neg e,zN h (by omega)];rfl
theorem yPw {n l}(hl:∀p∈l,qY n p) i (hi:i<n):qE (fun j=>zM (gS i j) l-zM (gS j i) l) n= -zM (gB i) l:=by
 have e1:qE (fun j=>zM (gS i j) l-zM (gS j i) l) n=qE (fun j=>zM (fun p=>gS i j p-gS j i p) l) n:=ou fun j _=>(P1 _ _ l).symm
 rw[e1,JU (fun j p=>gS i j p-gS j i p)];have e2:∀p∈l,qE (fun j=>gS i j p-gS j i p) n=0-gB i p:=by
  intro p hp;obtain⟨f0,f1,t0,t1,ne,a1,a2,c1,c3⟩:=hl p hp;obtain⟨f,hf⟩:∃f:Nat,p.2.1=f:=⟨p.2.1.toNat,by omega⟩;obtain⟨t,ht⟩:∃t:Nat,p.2.2.1=t:=⟨p.2.2.1.toNat,by omega⟩;have g1:∀j,gS i j p-gS j i p=(if j=t then(if f=i then p.2.2.2.1 else 0) else 0)+(if j=f then(if t=i then-p.2.2.2.1 else 0) else 0):=by
   unfold gS;omega
  rw[ou fun j _=>g1 j,Au,vz,vz];unfold gB;omega
 rw[JT e2,P1];have:zM (fun _:zG=>(0:Int)) l=0:=by
  clear e1 e2 hl
  induction l with
  |nil=>rfl
  |cons p l ih=>show 0+zM _ l=0;omega
 omega
structure vE6 (n:Nat) (a:List qQ) (p:EQ) (l:List zG) (i:Nat) (a':List qQ) (p':EQ):Prop where
 al:a'.length=n
 done:∀x,x<n→x<i→a'.getD x ad=((a.getD x ad).1+zM (gB x) l,(a.getD x ad).2.1,wG (a.getD x ad).2.2 (zM (gR x) l))
 rest:∀x,x<n→¬x<i→a'.getD x ad=a.getD x ad
 pl:p'.length=n
 pr:∀x,x<n→(p'.getD x []).length=n
 cell:∀x,x<n→∀y,y<n→cell p' x y=if x<i then cell p x y+zM (gS x y) l-zM (gS y x) l else cell p x y
structure Qn (n:Nat) (a:List qQ) (p:EQ) (l:List zG) (i j:Nat) (a':List qQ) (p':EQ):Prop where
 al:a'.length=n
 done:∀x,x<n→x<i→a'.getD x ad=((a.getD x ad).1+zM (gB x) l,(a.getD x ad).2.1,wG (a.getD x ad).2.2 (zM (gR x) l))
 here:a'.getD i ad=((a.getD i ad).1-qE (fun j=>zM (gS i j) l-zM (gS j i) l) j,(a.getD i ad).2.1,wG (a.getD i ad).2.2 (zM (gR i) l))
 rest:∀x,x<n→i<x→a'.getD x ad=a.getD x ad
 pl:p'.length=n
 pr:∀x,x<n→(p'.getD x []).length=n
 cell:∀x,x<n→∀y,y<n→cell p' x y=if x<i∨(x=i∧y<j) then cell p x y+zM (gS x y) l-zM (gS y x) l else cell p x y
theorem vKl {k n a p l}(hk:n<k)(bI:l.length<k)(hn:n≤1000)(hx:Ka n a p)(hl:vK n l){i}(hi:i<n)(b0:List qQ) b1 b2 b3 b m
  {a0 p0} (h0:Qn n a p l i 0 a0 p0):∃a' p',A2 k k l i 0 b0 b1 b2 b3 a0 b m p0=some (l,(i:Int),b0,b1,b2,b3,a',b,m,p')∧Qn n a p l i n a' p':=by
 obtain ⟨s, h1, h2⟩ := yZ (L := fun c j (s : List qQ × EQ) => A2 k c l i j b0 b1 b2 b3 s.1 b m s.2) (N := n) (fun s => (l, (i : Int), b0, b1, b2, b3, s.1, b, m, s.2)) (fun j s => Qn n a p l i j s.1 s.2) (fun c s hs=>by
   show A3 k _ l i n b0 b1 b2 b3 s.1 b m s.2=_;unfold A3;simp only [qM, hs.al, ai (Nat.lt_irrefl _), ay]) (fun c j s hj hs=>by
   refine⟨(s.1.set i (zA ((s.1.getD i ad).1-(zM (gS i j) l-zM (gS j i) l)),(s.1.getD i ad).2),s.2.set i ((s.2.getD i []).set j (zA ((s.2.getD i []).getD j 0+(zM (gS i j) l-zM (gS j i) l))))),?_,?_⟩
   ·show A3 k _ l i j b0 b1 b2 b3 s.1 b m s.2=_;unfold A3;simp only[zW,qD hj (by grind),qM,aC,hs.al,hs.pl,hs.pr i hi,ag hi,ag hj,av,yZz bI hl,ak]
   ·have hb:=hx.bal i hi;have hg:∀j,-70368744177664≤zM (gS i j) l-zM (gS j i) l∧zM (gS i j) l-zM (gS j i) l≤70368744177664:=fun j=>by
     have h1:=pT hl i j;have h2:=pT hl j i;omega
    have zq:=sL hg j;have Ap:=hg j;have mY:=hx.net i hi j hj;have hc:=hs.cell i hi j hj;rw[if_neg (by omega)] at hc;refine⟨by simp only[List.length_set];exact hs.al,fun x gJ sU=>?_,?_,fun x gJ sU=>?_,by simp only[List.length_set];exact hs.pl,Kb hs.pl hs.pr hi,fun x gJ y FZ=>?_⟩
    ·rw[jD,if_neg (by grind)];exact hs.done x gJ sU
    ·rw[jD,if_pos ⟨rfl,by rw[hs.al];exact hi⟩,hs.here];dsimp only;rw[zN (by omega) (by omega)];show(_,_)=((a.getD i ad).1-(qE _ j+_),_);grind
    ·rw[jD,if_neg (by grind)];exact hs.rest x gJ sU
    ·have e:(s.2.getD i []).getD j 0=cell p i j:=hc;rw[Ql (by rw[hs.pl];exact hi) (by rw[hs.pr i hi];exact hj),e];by_cases Kh:x=i∧y=j
     ·obtain⟨rfl,rfl⟩:=Kh;rw[if_pos ⟨rfl,rfl⟩,if_pos (by omega),zN (by omega) (by omega)];omega
     ·rw[if_neg Kh,hs.cell x gJ y FZ];omega) (s:=(a0,p0)) hk h0
 grind
theorem vKj {k n a b m p l}(hk:n<k)(bI:l.length<k)(hn:n≤1000)(hx:Ka n a p)(hl:vK n l)(b0:List qQ) b1 b2 b3:
  ∃a' p',A4 k k l 0 b0 b1 b2 b3 a b m p=some (b0,b1,b2,b3,a',b,m,p')∧pU n a p l a' p':=by
 obtain ⟨s, h1, h2⟩ := yZ (L := fun c i (s : List qQ × EQ) => A4 k c l i b0 b1 b2 b3 s.1 b m s.2) (N := n) (fun s => (b0, b1, b2, b3, s.1, b, m, s.2)) (fun i s => vE6 n a p l i s.1 s.2) (fun c s hs=>by
   show A5 k _ l n b0 b1 b2 b3 s.1 b m s.2=_;unfold A5;simp only [qM, hs.al, ai (Nat.lt_irrefl _), ay]) (fun c i s hi hs=>by
   have hai:=hs.rest i hi (by simp);have hr:=hx.res i hi;have hsp:=wc hl i;obtain⟨a',p',h1,h2⟩:=vKl (a0:=s.1.set i ((s.1.getD i ad).1,((s.1.getD i ad).2.1,wG (s.1.getD i ad).2.2 (zM (gR i) l)))) (p0:=s.2) hk bI hn hx hl hi b0 b1 b2 b3 b m ⟨by rw[List.length_set];exact hs.al,fun x gJ sU=>by
     rw[jD,if_neg (by grind)];exact hs.done x gJ sU,by
     rw[jD,if_pos ⟨rfl,by rw[hs.al];exact hi⟩,hai];show _=((a.getD i ad).1-0,_,_);simp,fun x gJ sU=>by
     rw[jD,if_neg (by grind)];exact hs.rest x gJ (by omega),hs.pl,hs.pr,fun x gJ y FZ=>by
     rw[hs.cell x gJ y FZ];omega⟩
   refine⟨(a',p'),?_,?_⟩
   ·show A5 k _ l i b0 b1 b2 b3 s.1 b m s.2=_;unfold A5;have hK:=yIu k (s.1.getD i ad).1 (s.1.getD i ad).2.1 (s.1.getD i ad).2.2 (zM (gR i) l) (by grind) (by grind) hsp.1;simp only[zW,qM,aC,hs.al,ag hi,av,yY0 bI hl,ak];rw[hK];simp only[ak];rw[h1];simp only[ak,qD hi (by grind)]
   ·refine⟨h2.al,fun x gJ sU=>?_,fun x gJ sU=>h2.rest x gJ (by omega),h2.pl,h2.pr,fun x gJ y FZ=>?_⟩
    ·by_cases h:x<i
     ·exact h2.done x gJ h
     ·have:x=i:=by omega
      subst this;rw[h2.here,yPw hl.1 x gJ];simp
    ·rw[h2.cell x gJ y FZ];omega) (s:=(a,p)) hk ⟨hx.al,by simp,by simp,hx.pl,hx.pr,by simp⟩
 exact⟨s.1,s.2,h1,h2.al,fun i hi=>h2.done i hi hi,h2.pl,h2.pr,fun i hi j hj=>by rw[h2.cell i hi j hj,if_pos hi]⟩
def ow (a:List qQ)(b:EQ)(m:AC)(p:EQ)(l:List zG)(r:List qQ×EQ×AC×EQ×Int):Prop:=
 (vK a.length l→∃a' p',pU a.length a p l a' p'∧r=(bif j5 a' b m p' then(a',b,m,p',0) else(a,b,m,p,8)))∧(¬vK a.length l→r=(a,b,m,p,1))
theorem Ki {k}(hk:100<k){a b m p}{l:List zG}(h:wB a b m p)(hl:l.length≤80):∃r,mZ k a b m p l=some r∧ow a b m p l r:=by
 unfold mZ ow;have e:decide (((l.length:Nat):Int)>64)=decide (¬l.length≤64):=by
  grind
 rw[e];by_cases bT:l.length≤64
 case neg=>
  rw[ag bT];exact⟨_,rfl,fun e=>absurd e.2 bT,by simp⟩
 rw[ai (by omega),vMo (by omega) (by omega)];cases hm:lq a.length l with
 |false=>
  refine⟨_,rfl,fun e=>?_,by simp⟩;rw[wb.2 e.1] at hm;cases hm
 |true=>
  have aU:vK a.length l:=⟨wb.1 hm,bT⟩;simp only[FL (show 10<k by omega) h.toSized,ak];obtain⟨a',p',h1,h2⟩:=vNp (b:=b) (m:=m) (show l.length<k by omega) h.nums aU a b m p;rw[h1];simp only[ak,yL2 (show 10<k by omega)];cases hB:j5 a' b m p' with
  |true=>exact⟨_,rfl,by grind,by grind⟩
  |false=>exact⟨_,rfl,by grind,by grind⟩
theorem vIo {k}(hk:100<k){a b m p}{l:List zG}(h:wB a b m p)(hl:l.length≤80):∃r,we k a b m p l=some r∧ow a b m p l r:=by
 unfold we ow;rw[yDo (by omega) (by omega)];cases hm:lq a.length l with
 |false=>
  refine⟨_,rfl,fun e=>?_,by simp⟩;rw[wb.2 e.1] at hm;cases hm
 |true=>
  by_cases bT:l.length≤64
  case neg=>
   rw[ai bT];exact⟨_,rfl,fun e=>absurd e.2 bT,by simp⟩
  have aU:vK a.length l:=⟨wb.1 hm,bT⟩;have h6:=h.n6;rw[ag bT];simp only[FK (show 10<k by omega) h.toSized,ak];obtain⟨a',p',h1,h2⟩:=vKj (b:=b) (m:=m) (show a.length<k by omega) (by grind) (by omega) h.nums aU a b m p;rw[h1];simp only[ak,yJv (show 10<k by omega)];cases hB:j5 a' b m p' with
  |true=>exact⟨_,rfl,by grind,by grind⟩
  |false=>exact⟨_,rfl,by grind,by grind⟩
theorem ow.same {a b m p l r r'}(h:ow a b m p l r)(h':ow a b m p l r'):r=r':=by
 by_cases c:vK a.length l
 ·obtain⟨a1,p1,x,rfl⟩:=h.1 c;obtain⟨a2,p2,y,rfl⟩:=h'.1 c;obtain⟨rfl,rfl⟩:=x.same y;rfl
 ·rw[h.2 c,h'.2 c]
theorem Kj {a b m p l r}(hb:wB a b m p)(h:ow a b m p l r):
  qE (fun i=>(r.1.getD i ad).1) a.length=qE (fun i=>(a.getD i ad).1) a.length∧wB r.1 r.2.1 r.2.2.1 r.2.2.2.1∧(r.2.2.2.2=0∨(r.1=a∧r.2.1=b∧r.2.2.1=m∧r.2.2.2.1=p)):=by
 by_cases c:vK a.length l
 ·obtain⟨a',p',x,e⟩:=h.1 c;cases hi:j5 a' b m p' with
  |false=>
   simp_all
  |true=>
   rw[hi] at e;subst e;refine⟨?_,FJ.1 hi,.inl rfl⟩;have e1:qE (fun i=>(a'.getD i ad).1) a.length=qE (fun i=>(a.getD i ad).1+zM (gB i) l) a.length:=ou fun j hj=>by rw[x.acct j hj]
   show qE (fun i=>(a'.getD i ad).1) a.length=_;rw[e1,Au,JU];have e2:zM (fun p=>qE (fun j=>gB j p) a.length) l=zM (fun _=>(0:Int)) l:=JT fun p hp=>by
    obtain⟨f0,f1,t0,t1,ne,a1,a2,c1,c3⟩:=c.1 p hp;obtain⟨f,hf⟩:∃f:Nat,p.2.1=f:=⟨p.2.1.toNat,by omega⟩;obtain⟨t,ht⟩:∃t:Nat,p.2.2.1=t:=⟨p.2.2.1.toNat,by omega⟩;have g1:∀j,gB j p=(if j=t then p.2.2.2.1 else 0)+(if j=f then-p.2.2.2.1 else 0):=by
     unfold gB;omega
    rw[ou fun j _=>g1 j,Au,vz,vz,if_pos (by omega),if_pos (by omega)];omega
   have e3:∀l:List zG,zM (fun _:zG=>(0:Int)) l=0:=by
    intro l
    induction l with
    |nil=>rfl
    |cons p l ih=>show 0+zM _ l=0;omega
   simp_all
 ·have e:=h.2 c;simp_all
theorem yXm {k n i p}(hk:n<k)(hn:n≤100)(hi:i<n)(hp:p.length=n)(hr:(p.getD i []).length=n)(hb:∀j,-72057594037927936≤cell p i j∧cell p i j≤72057594037927936)(a:List qQ) b m:
  Kk k a b m p i=some (qE (cell p i) n):=by
 obtain ⟨s, h1, h2⟩ := yZ (L := fun c j (s : Int) => A6 k c i s j a b m p) (N := n) (fun s => s) (fun j s => s = qE (cell p i) j) (fun c s hs=>by
   show A7 k _ i s n a b m p=_;unfold A7;simp only [zW, qM, aC, hp, hr, ag hi, ai (Nat.lt_irrefl _), ay, av]) (fun c j s hj hs=>by
   refine⟨qE (cell p i) (j+1),?_,rfl⟩;show A7 k _ i s j a b m p=_;have h1:=sL hb j;have h2:=hb j;unfold A7;simp only[zW,qD hj (by grind),qM,aC,hp,hr,ag hi,ag hj];show A6 k c i (zA (s+cell p i j)) _ a b m p=_;rw[hs,zN (by omega) (by omega)];rfl) (s:=0) hk rfl
 unfold Kk;simp_all
theorem Kl {a b m p}(hb:wB a b m p){i}(hi:i<a.length) j:-72057594037927936≤cell p i j∧cell p i j≤72057594037927936:=by
 by_cases hj:j<a.length
 ·have:=hb.net i hi j hj;simp[fH] at this;omega
 ·have:cell p i j=0:=by
   unfold cell;rw[List.getD_eq_getElem?_getD,List.getElem?_eq_none]
   ·rfl
   ·rw[hb.pr i hi];omega
  omega
theorem Km {S X:Type}{L:Nat→Int→S→Option X}{N} ok (e:S→X) b (inv:Nat→S→Prop)(bH:∀n s,inv N s→L (n+1) (N:Int) s=some (e s))
  (aH:∀n i s,i<N→inv i s→(ok i=true→∃s',L (n+1) (i:Int) s=L n ((i+1:Nat):Int) s'∧inv (i+1) s')∧(ok i=false→L (n+1) (i:Int) s=some b)):
  ∀c i n s,i+c=N→c<n→inv i s→(qA ok c i=true∧∃s',L n (i:Int) s=some (e s')∧inv N s')∨(qA ok c i=false∧L n (i:Int) s=some b)
 |0,i,n,s,h,hn,hs=>by
  obtain⟨n,rfl⟩:∃m,n=m+1:=⟨n-1,by omega⟩;have:i=N:=by omega
  subst this;exact .inl ⟨rfl,s,bH n s hs,hs⟩
 |c+1,i,n,s,h,hn,hs=>by
  obtain⟨n,rfl⟩:∃m,n=m+1:=⟨n-1,by omega⟩;obtain⟨h1,h2⟩:=aH n i s (by omega) hs;unfold qA;cases ho:ok i with
  |true=>
   obtain⟨s',h3,h4⟩:=h1 ho;rw[h3];exact Km ok e b inv bH aH c (i+1) n s' (by omega) (by omega) h4
  |false=>simp_all
def dS (l:List zG)(i j:Nat):Int:=zM (gS i j) l-zM (gS j i) l
def pV (b p:EQ)(l:List zG)(i j:Nat):Bool:= !(decide (zM (gS i j) l>0)&&(!decide (cell b i j= -1)&&decide (cell p i j+dS l i j>cell b i j)))
def fi (a:List qQ)(b:EQ)(m:AC)(p:EQ)(l:List zG)(i:Nat):Bool:=
 !decide (zM (gN i) l + zM (gR i) l = 0) && (!qA (pV b p l i) a.length 0 || (decide ((a.getD i ad).1+(a.getD i ad).2.1+zM (gB i) l<0)||
  ((decide (zM (gN i) l>0)&&decide ((a.getD i ad).1+(a.getD i ad).2.1+zM (gB i) l<wG (a.getD i ad).2.2 (zM (gR i) l)))||
   (!decide (m.getD i 0= -1)&&decide (qE (cell p i) a.length-zM (gB i) l>m.getD i 0)))))
theorem A8 {n l}(hl:vK n l) i j:-70368744177664≤dS l i j∧dS l i j≤70368744177664:=by
 have h1:=pT hl i j;have h2:=pT hl j i;unfold dS;omega
theorem vDy {k:Nat}{a:List qQ}{b:EQ}{m:AC}{p:EQ}{l:List zG}(hk:100<k)(hb:wB a b m p)(hl:vK a.length l){i:Nat}(hi:i<a.length)(x y n0 du:Int)
  (ED:-6917529027641081856≤n0∧n0≤6917529027641081856) (mY:-576460752303423488≤du∧du≤576460752303423488):
  oz k k l i x y n0 du 0 a b m p=some (bif qA (pV b p l i) a.length 0 then .inl ((i:Int),x,y,n0-qE (dS l i) a.length,du+qE (dS l i) a.length,a,b,m,p) else .inr true):=by
 have h6:=hb.n6;have bI:l.length<k:=by have:=hl.2;omega
 have := Km (L := fun c j (s : Int × Int) => oz k c l i x y s.1 s.2 j a b m p) (N := a.length) (pV b p l i) (fun s => .inl ((i : Int), x, y, s.1, s.2, a, b, m, p)) (.inr true) (fun j s => s = (n0 - qE (dS l i) j, du + qE (dS l i) j)) (fun c s hs=>by
   show A9 k _ l i x y s.1 s.2 a.length a b m p=_;unfold A9;simp only [qM, ai (Nat.lt_irrefl _), ay]) (fun c j s hj hs=>by
   have zq:=sL (fun j=>A8 hl i j) j;have Ap:=A8 hl i j;have hj1:(j:Int)*70368744177664≤6*70368744177664:=by omega
   have mY:=hb.nums.net i hi j hj;have e1:oz k (c+1) l i x y s.1 s.2 j a b m p=bif pV b p l i j then oz k c l i x y (n0-qE (dS l i) (j+1)) (du+qE (dS l i) (j+1)) ((j+1:Nat):Int) a b m p else some (.inr true):=by
    show A9 k _ l i x y s.1 s.2 j a b m p=_;unfold A9;simp only[zW,qD hj (show a.length<9223372036854775808 by omega),qM,aC,ag hi,ag hj,av,Qm bI hl,ak,hb.bl,hb.br i hi,hb.pl,hb.pr i hi];have ed:zA (zM (gS i j) l-zM (gS j i) l)=dS l i j:=zN (by have:=Ap.1;unfold dS at this;omega) (by have:=Ap.2;unfold dS at this;omega);rw[ed];have e2:zA (s.1-dS l i j)=n0-qE (dS l i) (j+1):=by
     rw[hs];show zA (n0-qE (dS l i) j-dS l i j)=n0-(qE (dS l i) j+dS l i j);rw[zN (by omega) (by omega)];omega
    have e3:zA (s.2+dS l i j)=du+qE (dS l i) (j+1):=by
     rw[hs];show zA (du+qE (dS l i) j+dS l i j)=du+(qE (dS l i) j+dS l i j);rw[zN (by omega) (by omega)];omega
    rw[e2,e3];show(bif decide (zM (gS i j) l>0) then(bif !decide (cell b i j= -1) then(bif decide (zA (cell p i j+dS l i j)>cell b i j) then _ else _) else _) else _)=_;rw[zN (x:=cell p i j+dS l i j) (by omega) (by omega)];unfold pV;cases decide (zM (gS i j) l>0)<;>cases decide (cell b i j= -1)<;>cases decide (cell p i j+dS l i j>cell b i j)<;>rfl
   refine⟨fun ho=>⟨_,?_,rfl⟩,fun ho=>?_⟩
   ·rw[e1,ho];rfl
   ·rw [e1, ho]; rfl) a.length 0 k (n0, du) (by omega) (by omega) (by
    show(n0,du)=(n0-0,du+0);rw[Int.sub_zero,Int.add_zero])
 rcases this with⟨h1,s,h2,h3⟩|⟨h1,h2⟩
 ·have Kn:oz k k l i x y n0 du 0 a b m p=_:=h2;rw[Kn,h1,h3];rfl
 ·have Kn:oz k k l i x y n0 du 0 a b m p=_:=h2;rw[Kn,h1];rfl
theorem qZy {n l}(hl:∀p∈l,qY n p) i (hi:i<n):qE (dS l i) n= -zM (gB i) l:=yPw hl i hi
theorem yQa {k a b m p l}(hk:100<k)(hb:wB a b m p)(hl:vK a.length l){i}(hi:i<a.length):Ko k a b m p l i=some (fi a b m p l i):=by
 have h6:=hb.n6;have bI:l.length<k:=by have:=hl.2;omega
 have hN:=yD7 hl i;have hR:=wc hl i;have hx:=hb.acct i hi;simp only[jE,bJ,bO] at hx;have nc:-4611686018427387904<(a.getD i ad).1∧(a.getD i ad).1<4611686018427387904∧0≤(a.getD i ad).2.1∧(a.getD i ad).2.1≤2305843009213693952∧0≤(a.getD i ad).2.2∧(a.getD i ad).2.2≤2305843009213693952:=by grind
 have mY:=sL (Kl hb hi) a.length;unfold Ko;rw[yIq bI hl];simp only[ak];rw[zN (x:=zM (gN i) l+zM (gR i) l) (by omega) (by omega)];unfold fi;cases hz:decide (zM (gN i) l+zM (gR i) l=0) with
 |true=>rfl
 |false=>
  rw[zW,ag hi];simp only[aC];rw[yXm (by omega) (by omega) hi hb.pl (hb.pr i hi) (Kl hb hi)];simp only[ak];rw[zN (x:=(a.getD i (0,(0,0))).1+(a.getD i (0,(0,0))).2.1) (by omega) (by omega)];rw[vDy hk hb hl hi _ _ _ _ (by omega) (by omega),qZy hl.1 i hi];cases qA (pV b p l i) a.length 0 with
  |false=>rfl
  |true=>
   have hK:=yIu k (a.getD i ad).1 (a.getD i ad).2.1 (a.getD i ad).2.2 (zM (gR i) l) (by omega) (by omega) hR.1;simp[zW,hb.ml];grind
theorem yXs {k:Nat}{a:List qQ}{b:EQ}{m:AC}{p:EQ}{l:List zG}(hk:100<k)(hb:wB a b m p)(hl:vK a.length l):∃r,pW k a b m p l=some r∧(r=[]↔qA (fun i=> !fi a b m p l i) a.length 0=true):=by
 have h6:=hb.n6;obtain ⟨r, h1, h2⟩ := yZ (L := fun c i (r : AC) => pX k c l i a b m p r) (N := a.length) (fun r => r) (fun i r => (r = [] ↔ ∀ j, j < i → fi a b m p l j = false) ∧ r.length ≤ i) (fun c r hr=>by
   show oC k _ l a.length a b m p r=_;unfold oC;simp only [qM, ai (Nat.lt_irrefl _), ay]) (fun c i r hi hr=>by
   have aS:zR (r.length+1) 8=true:=qT (by omega) (by omega);have e:pX k (c+1) l i a b m p r=pX k c l ((i+1:Nat):Int) a b m p (bif fi a b m p l i then r++[(i:Int)] else r):=by
    show oC k _ l i a b m p r=_;unfold oC;simp only[qD hi (show a.length<9223372036854775808 by omega),qM,ag hi,av,yQa hk hb hl hi,ak,aS];cases fi a b m p l i<;>rfl
   refine⟨_,e,?_⟩;cases hs:fi a b m p l i with
   |true=>
    refine⟨⟨fun h=>?_,fun h=>?_⟩,by simp only[av,List.length_append,List.length_cons,List.length_nil];omega⟩
    ·simp at h
    ·rw[h i (Nat.lt_succ_self i)] at hs;cases hs
   |false=>
    refine⟨⟨fun h j hj=>?_,fun h=>?_⟩,by simp only[ay];omega⟩
    ·by_cases c:j=i
     ·subst c;exact hs
     ·exact hr.1.1 h j (by omega)
    ·exact hr.1.2 fun j hj=>h j (by omega)) (s:=[]) (show a.length<k by omega) ⟨⟨fun _ j hj=>absurd hj (Nat.not_lt_zero j),fun _=>rfl⟩,Nat.le_refl 0⟩
 unfold pW;rw[h1];refine⟨r,rfl,h2.1.trans ?_⟩;rw[wI];exact⟨fun h j hj=>by rw[h j hj];rfl,fun h j hj=>by have:=h j hj;simpa using this⟩
def sV (a:List qQ)(b:EQ)(m:AC)(p:EQ)(l:List zG):Bool:=(lq a.length l&&decide (l.length≤64))&&qA (fun i=> !fi a b m p l i) a.length 0
theorem yZ8 {k a b m p}{l:List zG}(hk:100<k)(hb:wB a b m p)(hl:l.length≤80):F0 k a b m p l=some (sV a b m p l):=by
 unfold F0 sV;rw[yDo (by omega) (by omega)];cases hm:(lq a.length l&&decide (l.length≤64)) with
 |false=>rfl
 |true=>
  simp  at hm;obtain⟨r,h1,h2⟩:=yXs hk hb ⟨wb.1 hm.1,hm.2⟩;simp_all
theorem vQ8 {k n i p}(hk:n<k)(hn:n≤100)(hi:i<n)(hp:p.length=n)(hr:(p.getD i []).length=n)(hb:∀j,-72057594037927936≤cell p i j∧cell p i j≤72057594037927936)(a:List qQ) b m:
  Kp k a b m p i=some (qE (cell p i) n):=by
 obtain ⟨s, h1, h2⟩ := yZ (L := fun c j (s : Int) => Ba k c s (p.getD i []) n j) (N := n) (fun s => s) (fun j s => s = qE (cell p i) j) (fun c s hs=>by
   show Bb k _ s (p.getD i []) n n=_;unfold Bb;simp) (fun c j s hj hs=>by
   refine⟨qE (cell p i) (j+1),?_,rfl⟩;show Bb k _ s (p.getD i []) n j=_;have h1:=sL hb j;have h2:=hb j;unfold Bb;simp only[zW,qD hj (by grind),qM,hr,ag hj];show Ba k c (zA (s+cell p i j)) _ _ _=_;rw[hs,zN (by omega) (by omega)];rfl) (s:=0) hk rfl
 unfold Kp;simp[zW];simp_all
theorem yHs k {n:Nat}(hn:n≤6):F1 k n=some true:=by
 unfold F1;grind
theorem yO8 {α:Type}(v z:α) n i (hi:i<n):(List.replicate i v++List.replicate (n-i) z).set i v=List.replicate (i+1) v++List.replicate (n-(i+1)) z:=by
 have e:List.replicate (n-i) z=z::List.replicate (n-(i+1)) z:=by
  rw[show n-i=(n-(i+1))+1 by omega];rfl
 rw[List.set_append_right _ _ (by simp),List.length_replicate,Nat.sub_self,e];simp[List.replicate_succ']
theorem yNb {k n}(hk:n<k)(hn:n≤6) v:wg k n v=some (List.replicate n v):=by
 unfold wg;rw[yHs k hn];obtain ⟨s, h1, h2⟩ := yZ (L := fun c i (s : AC) => F2 k c v n i s) (N := n) (fun s => s) (fun i s => s = List.replicate i v ++ List.replicate (n - i) 0) (fun c s hs=>by
   show Bc k _ v n n s=_;unfold Bc;simp) (fun c i s hi hs=>by
   refine⟨_,?_,rfl⟩;show Bc k _ v n i s=_;have hl:s.length=n:=by grind
   unfold Bc;simp[zW,qD hi (by grind),ag hi,hl];rw[hs,yO8 v 0 n i hi]) (s:=List.replicate n 0) hk (by simp)
 grind
theorem vJ9 {k n}(hk:n<k)(hn:n≤6) v:Bd k n v=some (List.replicate n (List.replicate n v)):=by
 unfold Bd;rw[yHs k hn];obtain ⟨s, h1, h2⟩ := yZ (L := fun c i (s : EQ) => F3 k c n v n i s) (N := n) (fun s => s) (fun i s => s = List.replicate i (List.replicate n v) ++ List.replicate (n - i) []) (fun c s hs=>by
   show Be k _ n v n n s=_;unfold Be;simp) (fun c i s hi hs=>by
   refine⟨_,?_,rfl⟩;show Be k _ n v n i s=_;have hl:s.length=n:=by grind
   unfold Be;simp[zW,qD hi (by grind),ag hi,hl,yNb hk hn];rw[hs,yO8 (List.replicate n v) [] n i hi]) (s:=List.replicate n []) hk (by simp)
 grind
def pY (a:List qQ)(b:EQ)(m:AC)(p:EQ)(l:List zG):AC:=((List.range a.length).filter fun i=>fi a b m p l i).map fun(i:Nat)=>(i:Int)
structure Kq (n:Nat) (l:List zG) (r2 r3:AC) (m4:EQ):Prop where
 l2:r2.length=n
 l3:r3.length=n
 l4:m4.length=n
 r4:∀i,i<n→(m4.getD i []).length=n
 more:∀i,i<n→r2.getD i 0=zM (gB i) l
 spent:∀i,i<n→r3.getD i 0=zM (gR i) l
 sent:∀i,i<n→∀j,j<n→cell m4 i j=dS l i j
def F4 (p:zG)(r:AC):AC:=
 let y0:=r.set p.2.1.toNat (zA (r.getD p.2.1.toNat 0-p.2.2.2.1))
 y0.set p.2.2.1.toNat (zA (y0.getD p.2.2.1.toNat 0+p.2.2.2.1))
def F5 (p:zG)(r:AC):AC:=bif !decide (p.2.2.2.2.1=3) then r.set p.2.1.toNat (zA (r.getD p.2.1.toNat 0+p.2.2.2.1)) else r
theorem yXy {n p}(h:qY n p){r}(hr:r.length=n){i}(hi:i<n)(hb:∀i,i<n→-4611826755915743232<r.getD i 0∧r.getD i 0<4611826755915743232):(F4 p r).getD i 0=r.getD i 0+gB i p:=by
 obtain⟨f0,f1,t0,t1,ne,a1,a2,c1,c3⟩:=h;obtain⟨f,hf⟩:∃f:Nat,p.2.1=f:=⟨p.2.1.toNat,by omega⟩;obtain⟨t,ht⟩:∃t:Nat,p.2.2.1=t:=⟨p.2.2.1.toNat,by omega⟩;have Kc:f≠t:=by omega
 have fI:f<n:=by omega
 have fh:t<n:=by omega
 unfold F4 gB;simp only[hf,ht,aC];have b1:=hb f fI;have b2:=hb t fh;have key:∀x,(r.set f (zA (r.getD f 0-p.2.2.2.1))).getD x 0=if f=x then zA (r.getD f 0-p.2.2.2.1) else r.getD x 0:=by grind
 rw[jD,List.length_set,key t,if_neg Kc,key i];by_cases h1:t=i
 ·subst h1;rw[if_pos (by grind),if_pos rfl,if_neg (by omega),zN (by omega) (by omega)];omega
 ·rw[if_neg (by grind),if_neg (c:=((t:Int)=i)) (by omega)];by_cases h2:f=i
  ·subst h2;rw[if_pos rfl,if_pos rfl,zN (by omega) (by omega)];omega
  omega
theorem vEt {n p}(h:qY n p){r}(hr:r.length=n){i}(hi:i<n)(hb:∀i,i<n→-4611826755915743232<r.getD i 0∧r.getD i 0<4611826755915743232):(F5 p r).getD i 0=r.getD i 0+gR i p:=by
 obtain⟨f0,f1,t0,t1,ne,a1,a2,c1,c3⟩:=h;obtain⟨f,hf⟩:∃f:Nat,p.2.1=f:=⟨p.2.1.toNat,by omega⟩;have fI:f<n:=by omega
 have b1:=hb f fI;unfold F5 gR;simp only[hf,aC];by_cases hc:p.2.2.2.2.1=3
 ·simp_all
 ·rw[ai hc];simp only[fZ,av];rw[jD];by_cases h2:f=i
  ·subst h2;rw[if_pos (by grind),if_pos (by grind),zN (by omega) (by omega)]
  omega
theorem vMa l p i j:dS (l++[p]) i j=dS l i j+gS i j p-gS j i p:=by
 unfold dS;rw[iy,iy];dsimp only[zM];omega
theorem Kr {α:Type} n i (v d:α)(h:i<n):(List.replicate n v).getD i d=v:=by
 simp_all
theorem vNj {k n l}(hk:100<k)(hn:n≤6)(hl:vK n l):∃r2 r3 m4,Ks k n l=some (r2,r3,m4)∧Kq n l r2 r3 m4:=by
 have lr:=hl.2;have := yZ (L := fun c i (s : AC × AC × EQ) => F6 k c l l.length i s.1 s.2.1 s.2.2) (N := l.length) (fun s => s) (fun i s => Kq n (l.take i) s.1 s.2.1 s.2.2) (fun c s hs=>by
   show Bf k _ l l.length l.length s.1 s.2.1 s.2.2=_;unfold Bf;simp) (fun c i s hi hs=>by
   have bK:qY n (l.getD i pd):=hl.1 _ (eO hi);refine⟨(F4 (l.getD i pd) s.1,F5 (l.getD i pd) s.2.1,sQ (l.getD i pd) s.2.2),?_,?_⟩
   ·show Bf k _ l l.length i s.1 s.2.1 s.2.2=_;unfold Bf F4 F5 sQ;simp only[zW,qD hi (by grind),qM,aC,ag hi,av];obtain⟨f0,f1,t0,t1,ne,a1,a2,c1,c3⟩:=bK;obtain⟨f,hf⟩:∃f:Nat,(l.getD i pd).2.1=f:=⟨(l.getD i pd).2.1.toNat,by omega⟩;obtain⟨t,ht⟩:∃t:Nat,(l.getD i pd).2.2.1=t:=⟨(l.getD i pd).2.2.1.toNat,by omega⟩;have fI:f<n:=by omega
    have fh:t<n:=by omega
    have r1:=Kb (x:=zA ((s.2.2.getD f []).getD t 0+(l.getD i pd).2.2.2.1)) (t:=t) hs.l4 hs.r4 fI;simp only[hf,ht,aC,zW,hs.l2,hs.l3,hs.l4,List.length_set,hs.r4 f fI,r1 t fh,ag fI,ag fh,av];grind
   ·have aU:=hl.take i;have hp := yDb bK hs.l4 hs.r4 (fun i' bE j' ku=>by
     rw[hs.sent i' bE j' ku];have:=A8 aU i' j';omega)
    have hbM:∀i',i'<n→-4611826755915743232<s.1.getD i' 0∧s.1.getD i' 0<4611826755915743232:=fun i' bE=>by
     rw[hs.more i' bE];have:=Qk aU i';omega
    have hbS:∀i',i'<n→-4611826755915743232<s.2.1.getD i' 0∧s.2.1.getD i' 0<4611826755915743232:=fun i' bE=>by
     rw[hs.spent i' bE];have:=wc aU i';omega
    refine⟨by unfold F4;simp[hs.l2],by unfold F5;cases decide ((l.getD i pd).2.2.2.2.1=3)<;>simp[hs.l3],hp.1,hp.2.1,fun i' bE=>?_,fun i' bE=>?_,fun i' bE j' ku=>?_⟩
    ·rw[yXy bK hs.l2 bE hbM,hs.more i' bE,←ga l i pd hi,iy];dsimp only[zM];omega
    ·rw[vEt bK hs.l3 bE hbS,hs.spent i' bE,←ga l i pd hi,iy];dsimp only[zM];omega
    ·rw[hp.2.2 i' bE j' ku,hs.sent i' bE j' ku,←ga l i pd hi,vMa]) (n:=k) (s:=(List.replicate n 0,List.replicate n 0,List.replicate n (List.replicate n 0))) (by omega) ⟨by simp,by simp,by simp,by grind,fun i hi=>by rw[Kr n i _ _ hi];rfl,fun i hi=>by rw[Kr n i _ _ hi];rfl,fun i hi j hj=>by
    unfold cell;rw[Kr n i _ _ hi,Kr n j _ _ hj];rfl⟩
 obtain⟨s,h1,h2⟩:=this;rw[List.take_of_length_le (Nat.le_refl _)] at h2;refine⟨s.1,s.2.1,s.2.2,?_,h2⟩;unfold Ks;rw[yNb (by omega) hn,vJ9 (by omega) hn];simp_all
theorem vQm {k}{l:List zG}(hk:l.length<k)(hl:l.length<9223372036854775808) i:Kt k l i=some (!qA (fun x=> !decide ((l.getD x pd).2.1=i)) l.length 0):=by
 obtain ⟨x, h1, h2⟩ := sJ (L := fun c x => F7 k c l l.length x i) (N := l.length) (fun x => decide ((l.getD x pd).2.1 = i)) (fun c=>by
   show Bg k _ l l.length l.length i=_;unfold Bg;simp) (fun c x hx=>by
   show Bg k _ l l.length x i=_;unfold Bg Qo;simp[zW,qD hx hl,ag hx]) hk
 unfold Kt Qp;grind
theorem qUl {n:Nat}{l:List zG}(hl:∀p∈l,qY n p)(i:Nat):qA (fun x=> !decide ((l.getD x pd).2.1=i)) l.length 0=decide (zM (gN i) l+zM (gR i) l=0):=by
 have hN:=sK (g:=gN i) (l:=l) fun p hp=>(Kf (hl p hp) i).1
 have hR:=sK (g:=gR i) (l:=l) fun p hp=>(J9 (hl p hp) i).1
 have e:zM (gN i) l+zM (gR i) l=zM (fun p:zG=>if p.2.1=(i:Int) then p.2.2.2.1 else 0) l:=by
  rw[←yMr];refine JT fun p hp=>?_
  unfold gN gR;omega
 rw[e];have h:∀(l:List zG),(∀p∈l,qY n p)→((∀p∈l,¬p.2.1=i)↔zM (fun p:zG=>if p.2.1=(i:Int) then p.2.2.2.1 else 0) l=0):=by
  intro l
  induction l with
  |nil=>intro _;simp[zM]
  |cons q l ih=>
   intro hm;have ih:=ih (by grind);have hq:=hm q (by simp);have h0:0≤zM (fun p:zG=>if p.2.1=i then p.2.2.2.1 else 0) l:=sK fun p hp=>by
    have:=(hm p (by grind)).a1;omega
   unfold zM;by_cases c:q.2.1=i
   ·rw[if_pos c];have:=hq.a1;grind
   simp_all
 have bb:(∀p∈l,¬p.2.1=i)↔qA (fun x=> !decide ((l.getD x pd).2.1=i)) l.length 0=true:=by
  rw[wI];constructor
  ·intro h j hj
   simpa using h _ (eO hj)
  ·intro h p hp;obtain⟨j,hj,rfl⟩:=List.getElem_of_mem hp;have:=h j hj
   simpa[List.getD,hj] using this
 simp_all
def Bh (n F8:Int):Bool:= !decide (F8= -1)&&decide (n>F8)
theorem yM0 k n F8:Bi k n F8=some (Bh n F8):=by
 unfold Bi Bh;grind
theorem vLg k b c r s (h:-9223372036854775808≤r-s)(h':r<9223372036854775808)(hs:0≤s):sR k b c r s=some (wG r s):=by
 unfold sR wG vi;rw[zN h (by omega),ay];grind
def wh (b p:EQ)(l:List zG)(i:Nat)(short:Bool)(q:zG):Bool:=
 decide (q.2.1=i)&&((decide (q.2.2.2.2.1=3)&&short)||Bh (cell p i q.2.2.1.toNat+dS l i q.2.2.1.toNat) (cell b i q.2.2.1.toNat))
theorem yV1 {k a b m p l}(hk:100<k)(hb:wB a b m p)(hl:vK a.length l){r2 r3 m4}(hm:Kq a.length l r2 r3 m4){i}(hi:i<a.length) bal cr res n0 (ir:0≤res∧res≤2305843009213693952):
  Ku k l i bal cr res r2 r3 m4 n0 a b m p=some (!qA (fun x=> !wh b p l i (decide (n0<wG res (zM (gR i) l))) (l.getD x pd)) l.length 0):=by
 have lr:=hl.2;have hR:=wc hl i;obtain ⟨x, h1, h2⟩ := sJ (L := fun c x => F9 k c l l.length x i bal cr res r2 r3 m4 n0 a b m p) (N := l.length) (fun x => wh b p l i (decide (n0 < wG res (zM (gR i) l))) (l.getD x pd)) (fun c=>by
   show Bj k _ l l.length l.length i bal cr res r2 r3 m4 n0 a b m p=_;unfold Bj;simp) (fun c x hx=>by
   show Bj k _ l l.length x i bal cr res r2 r3 m4 n0 a b m p=_;have bK:qY a.length (l.getD x pd):=hl.1 _ (by grind);unfold Bj;simp only[zW,qD hx (by grind),qM,aC,ag hx];generalize l.getD x (0,(0,(0,(0,(0,(0,0))))))=q at bK⊢;obtain⟨id,f,t,am,cl,st,ti⟩:=q;obtain⟨f0,f1,t0,t1,ne,a1,a2,c1,c3⟩:=bK;dsimp only at f0 f1 t0 t1 ne a1 a2 c1 c3⊢;obtain⟨t,rfl⟩:∃y:Nat,t=y:=⟨t.toNat,by omega⟩;have fh:t<a.length:=by omega
   unfold Qq wh;cases hf:decide (f=(i:Int)) with
   |false=>simp
   |true=>
    have e1:(r3.getD i 0)=zM (gR i) l:=hm.spent i hi;have e2:(m4.getD i []).getD t 0=dS l i t:=hm.sent i hi t fh;have mY:=hb.nums.net i hi t fh;have hd:=A8 hl i t;have e3:zA ((p.getD i []).getD t 0+dS l i t)=cell p i t+dS l i t:=zN (by show _≤cell p i t+dS l i t;omega) (by show cell p i t+dS l i t<_;omega);simp only[zW,hm.l3,hm.l4,hm.r4 i hi,hb.pl,hb.pr i hi,hb.bl,hb.br i hi,ag hi,ag fh,aC,e1,e2,e3,vLg k bal cr res (zM (gR i) l) (by omega) (by omega) hR.1,ak,yM0];cases decide (cl=3)<;>cases decide (n0<wG res (zM (gR i) l))<;>rfl) (n:=k) (by omega)
 unfold Ku Qr;grind
theorem Qs {α g}:∀{l:List α},(∀p∈l,0≤g p)→(0<zM g l↔∃p∈l,0<g p)
 |[],_=>by simp[zM]
 |q::l,h=>by
  have ih:=Qs (g:=g) (l:=l) (by grind);have h0:=sK (g:=g) (l:=l) (by grind);unfold zM;grind
theorem Kv {N p}:qA p N 0=false↔∃j,j<N∧p j=false:=by
 constructor
 ·apply Classical.byContradiction;intro hn;have:qA p N 0=true:=wI.2 (by grind);simp_all
 ·rintro⟨j,hj,hp⟩
  cases h:qA p N 0 with
  |false=>rfl
  |true=>rw[wI.1 h j hj] at hp;cases hp
theorem vO5 {a:List qQ}{b p l}(hl:vK a.length l){i}(hi:i<a.length) short:
  (!qA (fun x=> !wh b p l i short (l.getD x pd)) l.length 0)=(!qA (pV b p l i) a.length 0||(decide (zM (gN i) l>0)&&short)):=by
 have hN:=Qs (g:=gN i) (l:=l) fun p hp=>(Kf (hl.1 p hp) i).1
 have hS:=fun j=>Qs (g:=gS i j) (l:=l) fun p hp=>(Qj (hl.1 p hp) i j).1
 rw[Bool.eq_iff_iff];simp only[Bool.not_eq_true',Bool.or_eq_true,bJ,bO];rw[Kv,Kv];constructor
 ·rintro⟨x,hx,hb⟩
  have bK:=hl.1 _ (eO (d:=pd) hx);have dD:=eO (d:=pd) hx;generalize l.getD x pd=q at hb bK dD;simp only[wh,Bool.not_eq_false',bJ,Bool.or_eq_true,bO] at hb;obtain⟨hf,hb⟩:=hb;rcases hb with⟨hc,hs⟩|ho
  ·refine .inr ⟨hN.2 ⟨q,dD,?_⟩,hs⟩;unfold gN;rw[if_pos ⟨hf,hc⟩];have:=bK.a1;omega
  ·have h1:=bK.t0;have h2:=bK.t1;refine .inl ⟨q.2.2.1.toNat,by omega,?_⟩;unfold pV;have jn:zM (gS i q.2.2.1.toNat) l>0:=(hS _).2 ⟨q,dD,by
    unfold gS;rw[if_pos (by grind)];have:=bK.a1;omega⟩
   rw[ag jn];unfold Bh at ho;simp_all
 ·rintro(⟨j,hj,hb⟩|⟨hp,hs⟩)
  ·simp only[pV,Bool.not_eq_false',bJ,bO] at hb;obtain⟨jn,ho⟩:=hb;obtain⟨q,hq,hg⟩:=(hS j).1 jn;obtain⟨x,hx,rfl⟩:=List.getElem_of_mem hq;refine⟨x,hx,?_⟩;have e:l.getD x pd=l[x]:=by simp[List.getD,hx]
   rw[e];unfold gS at hg;by_cases c:l[x].2.1=(i:Int)∧l[x].2.2.1=(j:Int)
   ·unfold wh Bh;simp_all
   ·rw[if_neg c] at hg;omega
  ·obtain⟨q,hq,hg⟩:=hN.1 hp;obtain⟨x,hx,rfl⟩:=List.getElem_of_mem hq;refine⟨x,hx,?_⟩;have e:l.getD x pd=l[x]:=by simp[List.getD,hx]
   rw[e];unfold gN at hg;by_cases c:l[x].2.1=(i:Int)∧l[x].2.2.2.2.1=3
   ·unfold wh;simp_all
   ·rw[if_neg c] at hg;omega
theorem yVc {k a b m p l}(hk:100<k)(hb:wB a b m p)(hl:vK a.length l){r2 r3 m4}(hm:Kq a.length l r2 r3 m4){i}(hi:i<a.length)(hs:decide (zM (gN i) l+zM (gR i) l=0)=false):
  Kw k r2 r3 m4 a b m p i l=some (fi a b m p l i):=by
 have h6:=hb.n6;have lr:=hl.2;have hB:=Qk hl i;have hx:=hb.acct i hi;simp only[jE,bJ,bO] at hx;have nc:-4611686018427387904<(a.getD i ad).1∧(a.getD i ad).1<4611686018427387904∧0≤(a.getD i ad).2.1∧(a.getD i ad).2.1≤2305843009213693952∧0≤(a.getD i ad).2.2∧(a.getD i ad).2.2≤2305843009213693952:=by grind
 have mY:=sL (Kl hb hi) a.length;have e1:r2.getD i 0=zM (gB i) l:=hm.more i hi;unfold Kw;simp only[zW,ag hi,av,aC,hm.l2,hm.l4,e1,hm.r4 i hi];rw[vQ8 (by omega) (by omega) hi hb.pl (hb.pr i hi) (Kl hb hi)];rw[zN (x:=(a.getD i ad).1+(a.getD i ad).2.1) (by omega) (by omega),zN (x:=(a.getD i ad).1+(a.getD i ad).2.1+zM (gB i) l) (by omega) (by omega)];unfold fi;rw[hs];cases hn:decide ((a.getD i ad).1+(a.getD i ad).2.1+zM (gB i) l<0) with
 |true=>simp
 |false=>
  obtain ⟨s, q1, q2⟩ := yZ (L := fun c j (s : Int) => wi k c l s (m4.getD i []) a.length j r2 r3 m4 a b m p i (a.getD i ad).1 (a.getD i ad).2.1 (a.getD i ad).2.2 ((a.getD i ad).1 + (a.getD i ad).2.1 + zM (gB i) l)) (N := a.length) (fun s => (l, s, r2, r3, m4, a, b, m, p, (i : Int), (a.getD i ad).1, (a.getD i ad).2.1, (a.getD i ad).2.2, (a.getD i ad).1 + (a.getD i ad).2.1 + zM (gB i) l)) (fun j s => s = qE (cell p i) a.length + qE (dS l i) j) (fun c s hs=>by
    show Bk k _ l s (m4.getD i []) a.length a.length r2 r3 m4 a b m p i (a.getD i ad).1 (a.getD i ad).2.1 (a.getD i ad).2.2 ((a.getD i ad).1+(a.getD i ad).2.1+zM (gB i) l)=_;unfold Bk;simp) (fun c j s hj hs=>by
    refine⟨qE (cell p i) a.length+qE (dS l i) (j+1),?_,rfl⟩;show Bk k _ l s (m4.getD i []) a.length j r2 r3 m4 a b m p i (a.getD i ad).1 (a.getD i ad).2.1 (a.getD i ad).2.2 ((a.getD i ad).1+(a.getD i ad).2.1+zM (gB i) l)=_;have e2:(m4.getD i []).getD j 0=dS l i j:=hm.sent i hi j hj;have zq:=sL (fun j=>A8 hl i j) j;have Ap:=A8 hl i j;unfold Bk;simp only[zW,qD hj (by grind),qM,aC,hm.r4 i hi,ag hj,av,e2];rw[hs,zN (x:=qE (cell p i) a.length+qE (dS l i) j+dS l i j) (by omega) (by omega),Int.add_assoc];rfl) (n:=k) (s:=qE (cell p i) a.length) (by omega) (by show _=_+0;omega)
  have q1':wi k k l (qE (cell p i) a.length) (m4.getD i []) a.length 0 r2 r3 m4 a b m p i (a.getD i ad).1 (a.getD i ad).2.1 (a.getD i ad).2.2 ((a.getD i ad).1+(a.getD i ad).2.1+zM (gB i) l)=_:=q1;simp only[ay,ak];rw[show wi k k l (qE (cell p i) a.length) (m4.getD i []) a.length 0 r2 r3 m4 a b m p i (a.getD i (0,(0,0))).1 (a.getD i (0,(0,0))).2.1 (a.getD i (0,(0,0))).2.2 ((a.getD i ad).1+(a.getD i ad).2.1+zM (gB i) l)=_ from q1'];simp only[ak,zW,hb.ml,ag hi,av,aC,yM0];rw[yV1 hk hb hl hm hi _ _ _ _ (by grind),vO5 hl hi,q2,qZy hl.1 i hi];have en:qE (cell p i) a.length+-zM (gB i) l=qE (cell p i) a.length-zM (gB i) l:=by omega
  rw[en];unfold Bh;grind
theorem yCt f i:((List.range (i+1)).filter f).map (fun(x:Nat)=>(x:Int))=(((List.range i).filter f).map fun(x:Nat)=>(x:Int))++(bif f i then[(i:Int)] else[]):=by
 rw[List.range_succ,List.filter_append,List.map_append];grind
theorem Qt {k a b m p l}(hk:100<k)(hb:wB a b m p)(hl:vK a.length l):wj k a b m p l=some (pY a b m p l):=by
 have h6:=hb.n6;have lr:=hl.2;obtain⟨r2,r3,m4,g1,hm⟩:=vNj hk h6 hl;obtain ⟨r, h1, h2⟩ := yZ (L := fun c i (r : AC) => Bl k c l a.length i a b m p r2 r3 m4 r) (N := a.length) (fun r => r) (fun i r => r = ((List.range i).filter fun i => fi a b m p l i).map fun (x : Nat) => (x : Int)) (fun c r hr=>by
   show Bm k _ l a.length a.length a b m p r2 r3 m4 r=_;unfold Bm;simp) (fun c i r hi hr=>by
   have hle:r.length≤i:=by
    grind
   have aS:zR (r.length+1) 8=true:=qT (by omega) (by omega);refine⟨_,?_,rfl⟩;show Bm k _ l a.length i a b m p r2 r3 m4 r=_;unfold Bm;simp only[qD hi (by grind),vQm (show l.length<k by omega) (by omega)];rw[qUl hl.1,yCt,←hr];cases hz:decide (zM (gN i) l+zM (gR i) l=0) with
   |true=>
    have:fi a b m p l i=false:=by unfold fi;simp_all
    simp_all
   |false=>
    rw[yVc hk hb hl hm hi hz];grind) (n:=k) (s:=[]) (by omega) rfl
 unfold wj;rw[g1];simp;have eL:Bl k k l a.length 0 a b m p r2 r3 m4 []=some r:=h1;rw[eL,h2];rfl
theorem yHh {k a b m p l}(hk:100<k)(hb:wB a b m p)(hl:vK a.length l):pW k a b m p l=some (pY a b m p l):=by
 have h6:=hb.n6;obtain ⟨r, h1, h2⟩ := yZ (L := fun c i (r : AC) => pX k c l i a b m p r) (N := a.length) (fun r => r) (fun i r => r = ((List.range i).filter fun i => fi a b m p l i).map fun (x : Nat) => (x : Int)) (fun c r hr=>by
   show oC k _ l a.length a b m p r=_;unfold oC;simp) (fun c i r hi hr=>by
   have hle:r.length≤i:=by
    grind
   have aS:zR (r.length+1) 8=true:=qT (by omega) (by omega);refine⟨_,?_,rfl⟩;show oC k _ l i a b m p r=_;unfold oC;simp[qD hi (by grind),yQa hk hb hl hi];rw[yCt,←hr];grind) (s:=[]) (show a.length<k by omega) rfl
 unfold pW;have eL:pX k k l 0 a b m p []=some r:=h1;rw[eL,h2];rfl
theorem vD1 {a b m p l}:decide (((pY a b m p l).length:Int)=0)=qA (fun i=> !fi a b m p l i) a.length 0:=by
 unfold pY;cases h:qA (fun i=> !fi a b m p l i) a.length 0 with
 |true=>
  rw[wI] at h;simp_all
 |false=>
  apply ai;intro h0;obtain⟨j,hj,hs⟩:=Kv.1 h;simp_all
theorem yTg {k}{l:List zG}(hk:l.length<k)(hl:l.length<9223372036854775808)(a:List qQ) b m p:Kx k l a b m p=some (!lq a.length l):=by
 obtain ⟨x, h1, h2⟩ := sJ (L := fun c i => Ga k c l l.length i a b m p) (N := l.length) (fun i => !ll a.length (l.getD i pd)) (fun c=>by
  show Bn k _ l l.length l.length a b m p=_;unfold Bn;simp) (fun c i hi=>by
  show Bn k _ l l.length i a b m p=_;unfold Bn Qu;simp[zW,qD hi hl,ag hi,J6]) hk
 unfold Kx Qv;unfold lq;grind
theorem vJo {k a b m p}{l:List zG}(hk:100<k)(hb:wB a b m p)(hl:l.length≤80):wk k a b m p l=some (sV a b m p l):=by
 unfold wk sV;have e:decide ((l.length:Int)≤64)=decide (l.length≤64):=by
  grind
 rw[e,yTg (by omega) (by omega)];cases bT:decide (l.length≤64) with
 |false=>simp
 |true=>
  cases hm:lq a.length l with
  |false=>rfl
  |true=>
   have hr:vK a.length l:=⟨wb.1 hm,by grind⟩;simp only[av,ak,bG,fZ,Qt hk hb hr,vD1,Bool.true_and]
def qI (l:List zG):Prop:=List.Pairwise (fun p q=>p.1≠q.1) l
theorem qI.filter {l}(h:qI l) f:qI (l.filter f):=List.Pairwise.filter f h
theorem wm {α:Type} f (l:List α) i d (h:i<l.length):(l.take (i+1)).filter f=(l.take i).filter f++(bif f (l.getD i d) then[l.getD i d] else[]):=by
 rw[←ga l i d h,List.filter_append];rfl
theorem Gc {α X:Type}(d:α){l:List α}{L:Nat→Int→List α→Option X}(f:α→Bool)(e:List α→X)(bH:∀n s,L (n+1) (l.length:Int) s=some (e s))
  (aH:∀n i s,i<l.length→s.length≤i→L (n+1) (i:Int) s=L n ((i+1:Nat):Int) (bif f (l.getD i d) then s++[l.getD i d] else s)) {n:Nat} (hn:l.length<n):
  L n 0 []=some (e (l.filter f)):=by
 obtain ⟨s', h1, h2⟩ := yZ (L := L) (N := l.length) e (fun i s => s = (l.take i).filter f) (fun n s _ => bH n s) (fun n i s hi hs=>by
  refine⟨_,aH n i s hi ?_,?_⟩
  ·subst hs;have:=List.length_filter_le f (l.take i);rw[List.length_take] at this;omega
  ·subst hs;rw[wm f l i d hi];cases f (l.getD i d)<;>simp) (s:=[]) hn (by simp)
 rw[h1,h2,List.take_length]
def qN (l:List zG):Prop:=l.length≤1000
theorem lu {n}(h:n≤1000):zR (n+1) 56=true:=qT (by omega) (by omega)
def gK (t:Int)(p:zG):Bool:=bif decide (t≥p.2.2.2.2.2.1) then decide (t≤p.2.2.2.2.2.2) else false
theorem Qw {k l}(hk:l.length<k)(hl:qN l) t:Bo k l t=some (l.filter (gK t)):=by
 unfold Bo Qx;have := Gc pd (L := fun n i s => Gd k n l l.length i t s) (gK t) id (fun n s=>by
  show Bp k _ l l.length l.length t s=_;unfold Bp;simp) (fun n i s hi hs=>by
  show Bp k _ l l.length i t s=_;unfold Bp Qy Qz;unfold qN at hl;simp[zW,qD hi (by grind),lu (show s.length≤1000 by omega)];unfold gK;grind) hk
 simp_all
theorem QA {k l}(hk:l.length<k)(hl:qN l) t:Bq k l t=some (l.filter (gK t)):=by
 unfold Bq;have := Gc pd (L := fun n i s => Ge k n l t i s) (gK t) id (fun n s=>by
  show Br k _ l t l.length s=_;unfold Br;simp) (fun n i s hi hs=>by
  show Br k _ l t i s=_;unfold Br QB;unfold qN at hl;simp[zW,qD hi (by grind),lu (show s.length≤1000 by omega)];unfold gK;grind) hk
 simp_all
def wD (f:Int)(p:zG):Bool:=decide (p.2.1=f)
theorem Ky {k l}(hk:l.length<k)(hl:qN l) f:pZ k l f=some (l.filter (wD f)):=by
 unfold pZ;have := Gc pd (L := fun n i s => Gf k n l f i s) (wD f) id (fun n s=>by
  show Bt k _ l f l.length s=_;unfold Bt;simp) (fun n i s hi hs=>by
  show Bt k _ l f i s=_;unfold Bt;unfold qN at hl;simp[zW,qD hi (by grind),lu (show s.length≤1000 by omega)];unfold wD;grind) hk
 simp_all
def Kz (r:List zG)(p:zG):Bool:=qA (fun x=>decide (((r.filter (wD p.2.1)).getD x pd).2.2.2.2.1=3)) (r.filter (wD p.2.1)).length 0
def KA (r:List zG)(p:zG):Bool:=decide ((r.filter (wD p.2.1)).getD 0 pd=p)
def oD (r:List zG)(p:zG):Bool:=KA r p||Kz r p
def vO (l:List zG)(t:Int):List zG:=(l.filter (gK t)).filter (oD (l.filter (gK t)))
theorem eq7 (p q:zG):((decide (p.1=q.1))&&((decide (p.2.1=q.2.1))&&((decide (p.2.2.1=q.2.2.1))&&((decide (p.2.2.2.1=q.2.2.2.1))&&((decide (p.2.2.2.2.1=q.2.2.2.2.1))&&((decide (p.2.2.2.2.2.1=q.2.2.2.2.2.1))&&(decide (p.2.2.2.2.2.2=q.2.2.2.2.2.2))))))))=decide (p=q):=by
 grind
theorem vD2 {k n:Nat}(s7:Int)(r0 r1 r2:List zG)(hk:r2.length<n)(hl:qN r2):
  Bu k n s7 true 0 r0 r1 r2=some (s7,qA (fun x=>decide ((r2.getD x pd).2.2.2.2.1=3)) r2.length 0,r0,r1,r2):=by
 obtain ⟨s', h1, h2⟩ := yZ (L := fun n i s => Bu k n s7 s i r0 r1 r2) (N := r2.length) (fun s => (s7, s, r0, r1, r2)) (fun i s => s = qA (fun x => decide ((r2.getD x pd).2.2.2.2.1 = 3)) i 0) (fun n s _=>by
  show Bv k _ s7 s r2.length r0 r1 r2=_;unfold Bv;simp only [qM, ai (Nat.lt_irrefl _), ay]) (fun n i s hi hs=>by
  refine⟨_,?_,rfl⟩;show Bv k _ s7 s i r0 r1 r2=_;unfold Bv;unfold qN at hl;simp only[zW,qD hi (show r2.length<9223372036854775808 by omega),qM,aC,ag hi,av];have e:qA (fun x=>decide ((r2.getD x pd).2.2.2.2.1=3)) (i+1) 0=(s&&decide ((r2.getD i pd).2.2.2.2.1=3)):=by
   rw[Bool.eq_iff_iff,hs];simp only[wI,bJ,bO];constructor
   ·intro h;exact⟨fun j hj=>h j (by omega),h i (by omega)⟩
   ·rintro⟨h1,h2⟩ j hj
    by_cases c:j=i
    ·subst c;exact h2
    ·exact h1 j (by omega)
  rw[e];cases s<;>rfl) (s:=true) hk rfl
 exact h1.trans (by rw[h2])
theorem yJ7 {k l}(hk:l.length<k)(hl:qN l) t:Gg k l t=some (vO l t):=by
 unfold Gg;rw[QA hk hl];unfold vO;have dt:(l.filter (gK t)).length≤l.length:=by grind
 generalize l.filter (gK t)=r at dt;unfold qN at hl;have := Gc pd (L := fun n i s => Gh k n i r s) (l := r) (oD r) id (fun n s=>by
  show Bw k _ r.length r s=_;unfold Bw;simp) (fun n i s hi hs=>by
  show Bw k _ i r s=_;unfold Bw;have sf:(r.filter (wD (r.getD i pd).2.1)).length≤r.length:=by grind
  have pv:0<(r.filter (wD (r.getD i pd).2.1)).length:=by
   apply List.length_pos_of_mem (a:=r.getD i pd);rw[List.mem_filter];exact⟨eO hi,by simp[wD]⟩
  have QC:=Ky (k:=k) (l:=r) (by omega) (show r.length≤1000 by omega) (r.getD i pd).2.1;have b0:∀n:Nat,zC 0 n=decide (0<n):=fun n=>zW 0 n
  have e7:=eq7 ((r.filter (wD (r.getD i pd).2.1)).getD 0 pd) (r.getD i pd);simp only[aC];rw[QC];simp only[ak];rw[vD2 ((i:Nat):Int) r s _ (by omega) (show _≤1000 by omega)];simp[b0,zW,qD hi (by grind),lu (show s.length≤1000 by omega)];unfold oD KA Kz;grind) (show r.length<k by omega)
 simp_all
def wo (f:Int)(q:zG):Bool:=decide (q.2.1=f)&& !decide (q.2.2.2.2.1=3)
theorem yY4 {k}{l:List zG}(hk:l.length<k)(hl:l.length<9223372036854775808) i f t a c s e:
  KB k l i f t a c s e=some (!qA (fun x=> !wo f (l.getD x pd)) l.length 0):=by
 obtain ⟨x, h1, h2⟩ := sJ (L := fun n i' => Gj k n l l.length i' i f t a c s e) (N := l.length) (fun x => wo f (l.getD x pd)) (fun n=>by
  show Bx k _ l l.length l.length i f t a c s e=_;unfold Bx;simp) (fun n j hj=>by
  show Bx k _ l l.length j i f t a c s e=_;unfold Bx QD;simp[zW,qD hj hl];unfold wo;grind) hk
 unfold KB QE;grind
theorem vBm (r:List zG)(p:zG):Kz r p=true↔∀q∈r,q.2.1=p.2.1→q.2.2.2.2.1=3:=by
 unfold Kz;rw[wI];constructor
 ·intro h q hq he;have hm:q∈r.filter (wD p.2.1):=List.mem_filter.2 ⟨hq,by simp[wD,he]⟩;obtain⟨i,hi,e⟩:=List.getElem_of_mem hm;have:=h i hi;rw[List.getD_eq_getElem?_getD,List.getElem?_eq_getElem hi,e] at this
  simpa using this
 ·intro h j hj;have hm:=eO (d:=pd) hj;rw[List.mem_filter] at hm;have:=h _ hm.1 (by simpa[wD] using hm.2)
  simpa using this
theorem vMs (r:List zG)(f:Int):qA (fun x=> !wo f (r.getD x pd)) r.length 0=true↔∀q∈r,q.2.1=f→q.2.2.2.2.1=3:=by
 rw[wI];constructor
 ·intro h q hq he;obtain⟨i,hi,e⟩:=List.getElem_of_mem hq;have:=h i hi;rw[List.getD_eq_getElem?_getD,List.getElem?_eq_getElem hi,e] at this
  simpa[wo,he] using this
 ·intro h j hj;have:=h _ (eO (d:=pd) hj);simp only[wo,Bool.not_eq_true',Bool.and_eq_false_iff,Bool.not_eq_false',bO,decide_eq_false_iff_not];by_cases c:(r.getD j pd).2.1=f
  ·exact .inr (this c)
  ·exact .inl c
theorem qI.split {r}(h:qI r){i}(hi:i<r.length):∀q∈r.take i,q.1≠(r.getD i pd).1:=by
 intro q hq;have e:r.take (i+1)=r.take i++[r.getD i pd]:=(ga r i pd hi).symm;have hs:qI (r.take (i+1)):=List.Pairwise.sublist (by grind) h;rw[e] at hs;exact(List.pairwise_append.1 hs).2.2 q hq _ (by simp)
theorem KC {α:Type} r i (d:α)(hi:i<r.length):r=r.take i++r.getD i d::r.drop (i+1):=by
 simp_all
theorem vHl {r}(h:qI r){i}(hi:i<r.length):KA r (r.getD i pd)= !(r.take i).any (wD (r.getD i pd).2.1):=by
 unfold KA;have e:∀f,wD f (r.getD i pd)=true→r.filter (wD f)=(r.take i).filter (wD f)++r.getD i pd::(r.drop (i+1)).filter (wD f):=by
  intro f hf;have:=congrArg (List.filter (wD f)) (KC r i pd hi);grind
 have e:=e (r.getD i pd).2.1 (by simp[wD]);rw[e];cases ha:(r.take i).any (wD (r.getD i pd).2.1) with
 |false=>
  have:(r.take i).filter (wD (r.getD i pd).2.1)=[]:=by
   simp_all
  grind
 |true=>
  cases hf:(r.take i).filter (wD (r.getD i pd).2.1) with
  |nil=>
   rw[List.filter_eq_nil_iff] at hf;grind
  |cons q l=>
   have hq:q∈r.take i:=(List.mem_filter.1 (hf▸List.mem_cons_self ..:q∈(r.take i).filter _)).1;have:=h.split hi q hq;grind
theorem vC7 {r}(h:qI r){i}(hi:i<r.length):
  oD r (r.getD i pd)=(!(r.take i).any (wD (r.getD i pd).2.1)||(decide ((r.getD i pd).2.2.2.2.1=3)&&qA (fun x=> !wo (r.getD i pd).2.1 (r.getD x pd)) r.length 0)):=by
 unfold oD;rw[vHl h hi]
 congr 1
 rw[Bool.eq_iff_iff,vBm,bJ,vMs,bO];grind
theorem lookup_cons (f g:Int)(l:List (Int×Bool)):(List.lookup f ((g,true)::l)).getD false=(decide (f=g)||(List.lookup f l).getD false):=by
 rw[List.lookup_cons];by_cases c:f=g
 ·subst c;simp
 ·have:(f==g)=false:=by simpa using c
  rw[this];simp[c]
theorem yPi {k:Nat}{l:List zG}(hk:l.length<k)(hl:qN l)(hd:qI l)(t:Int):Gk k l t=some (vO l t):=by
 unfold Gk;rw[Qw hk hl];simp only[ak];unfold vO;have dt:(l.filter (gK t)).length≤l.length:=List.length_filter_le _ _;have si:=hd.filter (gK t);generalize l.filter (gK t)=r at dt si;unfold qN at hl;unfold QF;obtain ⟨s', h1, h2, h3⟩ := yZ (L := fun n i (s : List (Int × Bool) × List zG) => By k n r r.length i s.1 r s.2) (N := r.length) (fun s => (s.1, r, s.2)) (fun i s => (∀ f, (List.lookup f s.1).getD false = (r.take i).any (wD f)) ∧ s.2 = (r.take i).filter (oD r)) (fun n s _=>by
  show Bz k _ r r.length r.length s.1 r s.2=_;unfold Bz;simp only [qM, ai (Nat.lt_irrefl _), ay]) (fun n i s hi hs=>by
  refine⟨(((r.getD i pd).2.1,true)::s.1,bif oD r (r.getD i pd) then s.2++[r.getD i pd] else s.2),?_,?_,?_⟩
  ·show Bz k _ r r.length i s.1 r s.2=_;unfold Bz QG;have hlen:s.2.length≤i:=by
    rw[hs.2];have:=List.length_filter_le (oD r) (r.take i);rw[List.length_take] at this;omega
   have hc:=yY4 (k:=k) (l:=r) (by omega) (by omega) (r.getD i pd).1 (r.getD i pd).2.1 (r.getD i pd).2.2.1 (r.getD i pd).2.2.2.1 (r.getD i pd).2.2.2.2.1 (r.getD i pd).2.2.2.2.2.1 (r.getD i pd).2.2.2.2.2.2;have pM:=hs.1 (r.getD i pd).2.1;have hp:=vC7 si hi;simp only[pd] at hc pM hp⊢;simp only[zW,qD hi (show r.length<9223372036854775808 by omega),qM,aC,ag hi,av,lu (show s.2.length≤1000 by omega)];rw[hc,pM,hp];generalize (r.take i).any _=x;generalize qA _ _ 0=y;generalize decide ((r.getD i (0,(0,(0,(0,(0,(0,0))))))).2.2.2.2.1=3)=z;cases x<;>cases y<;>cases z<;>rfl
  ·intro f;rw[lookup_cons,hs.1 f,←ga r i pd hi,List.any_append,Bool.or_comm]
   congr 1
   simp only[List.any_cons,List.any_nil,Bool.or_false,wD];rw[Bool.eq_iff_iff];simp only[bO];exact eq_comm
  ·show(bif oD r (r.getD i pd) then s.2++[r.getD i pd] else s.2)=_;rw[hs.2,wm _ _ _ pd hi];cases oD r (r.getD i pd)<;>simp) (s:=([],[])) (show r.length<k by omega) ⟨fun f=>by simp,by simp⟩
 have eL:By k k r r.length 0 [] r []=some (s'.1,r,s'.2):=h1;rw[eL,h3,List.take_length];rfl
def sW (p:Nat→Bool):Nat→Nat→Option Nat
 |0,_=>none
 |c+1,i=>bif p i then some i else sW p c (i+1)
def QH:Option Nat→Unit⊕Int
 |some x=>.inr (x:Int)
 |none=>.inl ()
theorem QI {L:Nat→Int→Option (Unit⊕Int)}{N:Nat} bad (bH:∀n,L (n+1) (N:Int)=some (.inl ()))
  (aH:∀n i,i<N→L (n+1) (i:Int)=bif bad i then some (.inr (i:Int)) else L n ((i+1:Nat):Int)):
  ∀c i n,i+c=N→c<n→L n (i:Int)=some (QH (sW bad c i))
 |0,i,n,h,hn=>by
  obtain⟨n,rfl⟩:∃m,n=m+1:=⟨n-1,by omega⟩;have:i=N:=by omega
  subst this;exact bH n
 |c+1,i,n,h,hn=>by
  obtain⟨n,rfl⟩:∃m,n=m+1:=⟨n-1,by omega⟩;rw[aH n i (by omega)];unfold sW;cases hb:bad i with
  |true=>rfl
  |false=>
   exact QI bad bH aH c (i+1) n (by omega) (by omega)
theorem qVy {p}:∀{c i x},sW p c i=some x→i≤x∧x<i+c∧p x=true∧∀j,i≤j→j<x→p j=false
 |c+1,i,x,h=>by
  unfold sW at h;cases hp:p i with
  |true=>
   grind
  |false=>
   rw[hp] at h;obtain⟨h1,h2,h3,h4⟩:=qVy h;grind
theorem yGs {p}:∀{c i},sW p c i=none→∀j,i≤j→j<i+c→p j=false
 |0,_,_=>by grind
 |c+1,i,h=>by
  unfold sW at h;cases hp:p i with
  |true=>
   simp_all
  |false=>
   rw[hp] at h;intro j j1 j2;by_cases e:j=i
   ·simp_all
   ·exact yGs h j (by omega) (by omega)
def vE (l:List zG)(id:Int):Option Nat:=sW (fun x=>decide ((l.getD x pd).1=id)) l.length 0
def jU (l:List zG)(id:Int):Int:=match vE l id with|some x=>(x:Int)|none=>-1
theorem iz {l id x}(h:vE l id=some x):x<l.length∧(l.getD x pd).1=id:=by
 obtain⟨_,h2,h3,_⟩:=qVy h;simp_all
theorem vM8 {l id}(h:vE l id=none):∀p∈l,p.1≠id:=by
 intro p hp e;obtain⟨i,hi,e'⟩:=List.getElem_of_mem hp;have:=yGs h i (by omega) (by omega);simp_all
theorem KD {l p}(h:p∈l):∃x,vE l p.1=some x:=by
 cases e:vE l p.1 with
 |some x=>simp
 |none=>exact absurd rfl (vM8 e p h)
theorem Gl {k}{l:List zG}(hk:l.length<k)(hl:l.length<9223372036854775808) id:j6 k l id=some (jU l id):=by
 have := QI (L := fun n i => BA k n l id i) (N := l.length) (fun x => decide ((l.getD x pd).1 = id)) (fun n=>by
  show BB k _ l id l.length=_;unfold BB;simp) (fun n j hj=>by
  show BB k _ l id j=_;unfold BB;simp[zW,qD hj hl,ag hj]) l.length 0 k (by omega) hk
 have h1:BA k k l id 0=some (QH (vE l id)):=this;unfold j6 jU;rw[h1];cases vE l id<;>rfl
theorem BC {k}{l:List zG}(hk:l.length<k)(hl:l.length<9223372036854775808) id:me k l id=some (jU l id):=by
 have := QI (L := fun n i => BD k n l l.length i id) (N := l.length) (fun x => decide ((l.getD x pd).1 = id)) (fun n=>by
  show BE k _ l l.length l.length id=_;unfold BE;simp) (fun n j hj=>by
  show BE k _ l l.length j id=_;unfold BE QJ;simp only[zW,qD hj hl,qM,ag hj];rfl) l.length 0 k (by omega) hk
 have h1:BD k k l l.length 0 id=some (QH (vE l id)):=this;unfold me QK jU;rw[h1];cases vE l id<;>rfl
def qU (l:List zG)(x:Nat):List zG:=l.take x++l.drop (x+1)
theorem lv {l x}(h:x<l.length):(qU l x).length=l.length-1:=by
 unfold qU;grind
theorem qa l x:List.Sublist (qU l x) l:=by
 unfold qU
 conv=>rhs;rw[←List.take_append_drop x l]
 grind
theorem qI.cut {l}(h:qI l) x:qI (qU l x):=List.Pairwise.sublist (qa l x) h
theorem qYn k {l}{x:Nat}(hx:x<l.length)(hl:qN l):Gm k l x ((x+1:Nat):Int)=some (qU l x):=by
 unfold Gm;have c1:(decide ((0:Int)≤(x:Int)))=true:=by simp
 have c2:decide ((x:Int)≤((x+1:Nat):Int))=true:=ag (by omega);have c3:decide (((x+1:Nat):Int)≤(l.length:Int))=true:=ag (by omega);have c4:decide ((l.length:Int)≤(l.length:Int))=true:=by simp
 have c5:decide ((x:Int)=((x+1:Nat):Int))=false:=ai (by omega);have c6:decide ((x:Int)≤(l.length:Int))=true:=ag (by omega);have c7:decide ((0:Int)≤((x+1:Nat):Int))=true:=ag (by omega);have c8:Nat.ble (x-0) (0+(x+1))=true:=by simp
 simp only[aC,c1,c2,c3,c4,c5,c6,c7,c8,ay];have e0:x-0+(l.length-(x+1))=l.length-1:=by omega
 have e1:List.take (x-0) l++qW l (0+(x+1)) (l.length-(x+1))=qU l x:=by
  unfold qW qU;rw[Nat.sub_zero,Nat.zero_add]
  congr 1
  rw[List.take_of_length_le];rw[List.length_drop];exact Nat.le_refl _
 have e2:(qW (qU l x++List.drop (l.length-1) l) 0 (l.length-1))=qU l x:=by
  unfold qW;rw[List.drop_zero,List.take_append_of_le_length (by rw[lv hx];exact Nat.le_refl _),List.take_of_length_le (by rw[lv hx];exact Nat.le_refl _)]
 have e3:(qU l x++List.drop (l.length-1) l).length=l.length:=by
  rw[List.length_append,List.length_drop,lv hx];omega
 have c9:decide ((0:Int)≤((qU l x).length:Int))=true:=by simp
 have KE:decide (((qU l x).length:Int)≤(l.length:Int))=true:=by grind
 have wq:decide ((l.length:Int)≤((l.length-0:Nat):Int))=true:=by simp
 have e4:List.take (0+(qU l x).length) (qU l x++List.drop (l.length-1) l)=qU l x:=by
  rw[Nat.zero_add,List.take_append_of_le_length (Nat.le_refl _),List.take_of_length_le (Nat.le_refl _)]
 simp only[e0,e1,e2,e3,c9,KE,wq,e4,Bool.and_true,av];rw[List.append_assoc,List.take_append_of_le_length (by rw[lv hx];exact Nat.le_refl _),List.take_of_length_le (by rw[lv hx];exact Nat.le_refl _)]
def fJ (l:List zG)(id:Int):List zG×Int×Int×Int×Int×Int×Int×Int×Int:=match vE l id with
 |some x=>(qU l x,(l.getD x pd).1,(l.getD x pd).2.1,(l.getD x pd).2.2.1,(l.getD x pd).2.2.2.1,(l.getD x pd).2.2.2.2.1,(l.getD x pd).2.2.2.2.2.1,(l.getD x pd).2.2.2.2.2.2,0)
 |none=>(l,0,0,0,0,0,0,0,4)
theorem wu {k l}(hk:l.length<k)(hl:qN l) id:nf k l id=some (fJ l id):=by
 unfold qN at hl;unfold nf;rw[BC hk (by omega)];unfold jU fJ;cases hp:vE l id with
 |none=>rfl
 |some x=>
  have hx:=(iz hp).1;have e1:decide ((x:Int)<0)=false:=by simp
  have e2:sX k l=some l:=by
   unfold sX;rw[qT (by omega) (by omega)];rfl
  simp only[ak,e1,ay,e2,qD hx (by grind),qYn k hx hl,zW,ag hx,av,aC]
def vV (q p:zG):Bool:=decide (q.2.1<p.2.1)||(decide (q.2.1=p.2.1)&&decide (q.2.2.2.2.1≤p.2.2.2.2.1))
def gL (q p:zG):Bool:=decide (q.2.1<p.2.1)||(decide (q.2.1=p.2.1)&&decide (q.2.2.2.2.1<p.2.2.2.2.1))
theorem vFt n x y:KF (n+3) [x,y]=some (if x=0 then y else x):=by
 have key:∀n:Nat,Gn (n+3) (n+3) 0 [x,y] 2 0=bif !decide (x=0) then some (.inr x) else bif !decide (y=0) then some (.inr y) else some (.inl 0):=fun n=>rfl
 unfold KF;grind
theorem vN6 k a b:Gp k a b=some (if a<b then-1 else if a>b then 1 else 0):=by
 unfold Gp KG;grind
theorem QL {k}(hk:3≤k) q p:∃x,BF k q.1 q.2.1 q.2.2.1 q.2.2.2.1 q.2.2.2.2.1 q.2.2.2.2.2.1 q.2.2.2.2.2.2 p.1 p.2.1 p.2.2.1 p.2.2.2.1 p.2.2.2.2.1 p.2.2.2.2.2.1 p.2.2.2.2.2.2=some x∧decide (x≤0)=vV q p∧decide (x<0)=gL q p:=by
 obtain⟨n,rfl⟩:∃n,k=n+3:=⟨k-3,by omega⟩;unfold BF;simp only[vN6,vFt];refine⟨_,rfl,?_,?_⟩
 ·unfold vV;grind
 ·unfold gL;grind
def Gq (ok:Nat→Bool):Nat→Nat→Nat
 |0,i=>i
 |c+1,i=>bif ok i then Gq ok c (i+1) else i
theorem BG {X:Type}{L:Nat→Int→Option X}{N:Nat} ok (e:Nat→X)(bH:∀n,L (n+1) (N:Int)=some (e N))
  (aH:∀n i,i<N→L (n+1) (i:Int)=bif ok i then L n ((i+1:Nat):Int) else some (e i)):∀c i n,i+c=N→c<n→L n (i:Int)=some (e (Gq ok c i))
 |0,i,n,h,hn=>by
  obtain⟨n,rfl⟩:∃m,n=m+1:=⟨n-1,by omega⟩;have:i=N:=by omega
  subst this;exact bH n
 |c+1,i,n,h,hn=>by
  obtain⟨n,rfl⟩:∃m,n=m+1:=⟨n-1,by omega⟩;rw[aH n i (by omega)];unfold Gq;cases ok i with
  |false=>rfl
  |true=>exact BG ok e bH aH c (i+1) n (by omega) (by omega)
theorem BH {α:Type} f (l:List α) d:∀c i,i+c=l.length→Gq (fun x=>f (l.getD x d)) c i=i+((l.drop i).takeWhile f).length
 |0,i,h=>by
  rw[List.drop_eq_nil_of_le (by omega)];rfl
 |c+1,i,h=>by
  rw[List.drop_eq_getElem_cons (by grind)];unfold Gq;have e:l.getD i d=l[i]:=by grind
  rw[e];cases hf:f l[i] with
  |false=>rw[List.takeWhile_cons_of_neg (by simp[hf])];rfl
  |true=>
   rw[List.takeWhile_cons_of_pos hf,av,BH f l d c (i+1) (by omega),List.length_cons];omega
theorem lx {α:Type} f (l:List α):l.take (l.takeWhile f).length=l.takeWhile f∧l.drop (l.takeWhile f).length=l.dropWhile f:=by
 have e:=List.takeWhile_append_dropWhile (p:=f) (l:=l);grind
theorem wv {α:Type} f (l:List α):(l.takeWhile f).length≤l.length:=(List.takeWhile_sublist f).length_le
theorem QM {α b} f l (p:α)(hl:l.length≤1000)(hb:b≤1000):ins b l (((l.takeWhile f).length:Nat):Int) [p]=some (l.takeWhile f++(p::l.dropWhile f)):=by
 unfold ins;have h:=wv f l;have hm:(l.length+1)*b≤1001*1000:=Nat.mul_le_mul (by omega) hb;rw[ag (by simp),ag (by grind),qT (by grind) (by omega),aC,(lx f l).1,(lx f l).2];rfl
def mf (l:List zG)(p:zG):List zG:=l.takeWhile (fun q=>vV q p)++(p::l.dropWhile (fun q=>vV q p))
def Gr (l:List zG)(p:zG):List zG:=l.takeWhile (fun q=>gL q p)++(p::l.dropWhile (fun q=>gL q p))
theorem qXc {k l}(hl:qN l):sX k l=some l:=by
 unfold qN at hl;unfold sX;rw[qT (by omega) (by omega)];rfl
theorem vL2 {k}(hk:3≤k) l (hl:qN l)(bI:l.length<k)(p:zG):Gs k k l 0 p=some (l,(((l.takeWhile (fun q=>vV q p)).length:Nat):Int),p):=by
 unfold qN at hl;have := BG (L := fun n i => Gs k n l i p) (N := l.length) (fun x => vV (l.getD x pd) p) (fun i => (l, (i : Int), p)) (fun n=>by
  show BI k _ l l.length p=_;unfold BI;simp) (fun n i hi=>by
  show BI k _ l i p=_;unfold BI;obtain⟨x,h1,h2,_⟩:=QL hk (l.getD i pd) p;simp only[zW,qM,aC,ag hi,h1,ak,h2,qD hi (by grind)];rfl) l.length 0 k (by omega) bI
 have e:((0:Nat):Int)=0:=rfl;rw[e] at this;rw[this,BH (fun q=>vV q p) l pd l.length 0 (by omega),List.drop_zero,Nat.zero_add]
theorem QN {k l}(hk:3≤k)(bI:l.length<k)(hl:qN l)(p:zG):
  sY k l p=some (bif (vE l p.1).isSome then(l,6) else bif decide (40≤l.length) then(l,3) else(mf l p,0)):=by
 have dt:=hl;unfold qN at hl;unfold sY;rw[BC bI (by omega)];unfold jU;cases hp:vE l p.1 with
 |some x=>
  rfl
 |none=>
  by_cases h:40≤l.length
  ·grind
  ·rw[ai h,ai (by grind)];simp[vL2 hk l dt bI,qXc dt,KH];rw[QM _ l p hl (by decide)];rfl
theorem QO {l x}(h:qN l):qN (qU l x):=by
 unfold qN at*
 have:=(qa l x).length_le;omega
def Gt (l:List zG)(id:Int):List zG:=match vE l id with|some x=>qU l x|none=>l
theorem yGa {l id}(hd:qI l):vE (Gt l id) id=none:=by
 cases h:vE (Gt l id) id with
 |none=>rfl
 |some y=>
  exfalso;obtain⟨h1,h2⟩:=iz h;unfold Gt at h h1 h2;cases hp:vE l id with
  |none=>
   rw[hp] at h;rw[hp] at h;cases h
  |some x=>
   rw[hp] at h1 h2;obtain⟨h3,h4⟩:=iz hp;have hm:=eO (d:=pd) h1;have e:=KC l x pd h3;rw[e] at hd;have Gu:=List.pairwise_append.1 hd;have QP:=List.pairwise_cons.1 Gu.2.1;rcases List.mem_append.1 hm with hm|hm
   ·exact Gu.2.2 _ hm _ (List.mem_cons_self ..) (h2.trans h4.symm)
   ·exact QP.1 _ hm (h4.trans h2.symm)
theorem vIl {k l}(hk:3≤k)(bI:l.length<k)(hl:qN l)(hd:qI l)(h40:l.length≤40){id x}(hx:vE l id=some x) c:
  BJ k l id c=some (mf (qU l x) ((l.getD x pd).1,(l.getD x pd).2.1,(l.getD x pd).2.2.1,(l.getD x pd).2.2.2.1,c,(l.getD x pd).2.2.2.2.2.1,(l.getD x pd).2.2.2.2.2.2),0):=by
 have cS:=iz hx;have hw:=yGa (id:=id) hd;unfold Gt at hw;have hlen:=lv cS.1;unfold BJ;rw[wu bI hl];unfold fJ;rw[hx];simp;rw[QN hk (by omega) (QO hl)];grind
theorem yUj {k l}(hk:3≤k)(bI:l.length<k)(hl:qN l)(hd:qI l)(h40:l.length≤40){id x}(hx:vE l id=some x):
  BK k l id=some (mf (qU l x) (l.getD x pd),0):=by
 have cS:=iz hx;have hw:=yGa (id:=id) hd;unfold Gt at hw;have hlen:=lv cS.1;unfold BK;rw[wu bI hl];unfold fJ;rw[hx];simp;rw[QN hk (by omega) (QO hl)];grind
theorem yWi {k}(hk:3≤k) l (hl:qN l)(bI:l.length<k)(p:zG):Gv k k 0 l p=some ((((l.takeWhile (fun q=>gL q p)).length:Nat):Int),l,p):=by
 unfold qN at hl;have := BG (L := fun n i => Gv k n i l p) (N := l.length) (fun x => gL (l.getD x pd) p) (fun i => ((i : Int), l, p)) (fun n=>by
  show BL k _ l.length l p=_;unfold BL;simp) (fun n i hi=>by
  show BL k _ i l p=_;unfold BL;obtain⟨x,h1,_,h2⟩:=QL hk (l.getD i pd) p;simp only[zW,qM,aC,ag hi,h1,ak,h2,qD hi (by grind)];rfl) l.length 0 k (by omega) bI
 have e:((0:Nat):Int)=0:=rfl;rw[e] at this;rw[this,BH (fun q=>gL q p) l pd l.length 0 (by omega),List.drop_zero,Nat.zero_add]
theorem yZ4 {k l}(hk:3≤k)(bI:l.length<k)(hl:qN l){id x}(hx:vE l id=some x):
  BM k l id=some (Gr (qU l x) (l.getD x pd),0):=by
 have dt:=hl;unfold qN at hl;have cS:=iz hx;have hlen:=lv cS.1;have e1:decide ((x:Int)<0)=false:=by simp
 unfold BM QQ;rw[BC bI (by omega)];unfold jU;rw[hx];simp only[ak,e1,ay,qXc dt,qD cS.1 (by grind),qYn k cS.1 dt,zW,ag cS.1,av];rw[yWi hk (qU l x) (QO dt) (by omega)];simp[KH];rw[QM _ (qU l x) _ (by omega) (by decide)];rfl
def wZ (l:AC)(id:Int):Nat:=(l.takeWhile (fun x=>decide (x<id))).length
theorem vRe {x}(h0:0≤x)(h1:x<9223372036854775808):zA (shr .u64 (IntKind.wrap .u64 (zA x)) 1)=x/2:=by
 have e1:zA x=x:=zN (by omega) h1;have e2:IntKind.wrap .u64 x=x:=by
  unfold IntKind.wrap;simp[IntKind.bits];omega
 rw[e1,e2];have e3:shr .u64 x 1=x/2:=by
  have:(2:Int)^(min (1:Int).toNat (IntKind.bits .u64))=2:=by decide
  grind
 rw[e3];exact zN (by omega) (by omega)
theorem yU2 k a b:KI k a b=some (decide (a<b)):=by
 unfold KI KJ;simp
theorem QR {k l id}(hl:l.length≤1000){c:Nat}(hc:c≤l.length)(h1:∀x,x<c→l.getD x 0<id)(h2:∀x,c≤x→x<l.length→id≤l.getD x 0) s6:
  ∀n i j,i≤c→c≤j→j≤l.length→j-i<n→Gw k n l id s6 i j=some (l,id,s6,(c:Int))
 |n+1,i,j,hi,hj,uI,hn=>by
  show KK k (Gw k n) l id s6 i j=_;unfold KK;rw[qM];by_cases jb:i<j
  ·have hh:zA (shr .u64 (IntKind.wrap .u64 (zA ((i:Int)+(j:Int)))) 1)=(((i+j)/2:Nat):Int):=by
    rw[vRe (by omega) (by omega)];omega
   have hm:(i+j)/2<l.length:=by omega
   rw[ag jb,av,hh,zW,ag hm,av,yU2];simp only[ak,aC];by_cases bd:(i+j)/2<c
   ·rw[ag (h1 _ bd),av,qD hm (by omega)];exact QR hl hc h1 h2 s6 n _ j (by omega) hj uI (by omega)
   ·rw[ai (by grind),ay];exact QR hl hc h1 h2 s6 n i _ hi (by omega) (by omega) (by omega)
  grind
theorem vI1 {k l id}(bI:l.length<k)(hl:l.length≤1000){c:Nat}(hc:c≤l.length)(h1:∀x,x<c→l.getD x 0<id)(h2:∀x,c≤x→x<l.length→id≤l.getD x 0):
  BN k l id=some ((c:Int),decide (c<l.length)&&decide (l.getD c 0=id)):=by
 unfold BN;have:=QR (k:=k) hl hc h1 h2 (l.length:Int) k 0 l.length (by omega) hc (by simp) (by omega);rw[show((0:Nat):Int)=0 from rfl] at this;rw[this];simp only[ak,zW,aC];by_cases h:c<l.length
 ·simp only[ag h];by_cases h3:l.getD c 0=id
  ·simp_all
  ·rw[ai h3];unfold KL;simp
 grind
def ng (l:AC):Prop:=List.Pairwise (fun a b=>a<b) l
theorem yRc {l id}:∀x,x<wZ l id→l.getD x 0<id:=by
 intro x hx;unfold wZ at hx;have h:=lx (fun x=>decide (x<id)) l;have e:l.getD x 0=(l.takeWhile (fun x=>decide (x<id))).getD x 0:=by
  grind
 have hm:=eO (d:=(0:Int)) hx;have:=List.all_eq_true.1 (List.all_takeWhile (p:=fun x=>decide (x<id)) (l:=l)) _ hm;simp_all
theorem qUk {l}(ha:ng l){id}:∀x,wZ l id≤x→x<l.length→id≤l.getD x 0:=by
 intro x hx hl;have hi:wZ l id<l.length:=by omega
 have h:=lx (fun x=>decide (x<id)) l;have h0:¬l.getD (wZ l id) 0<id:=by
  have hd:l.drop (wZ l id)=l[wZ l id]::l.drop (wZ l id+1):=by simp
  have h2:=h.2;unfold wZ at hd;rw[h2] at hd;have bj:l.dropWhile (fun x=>decide (x<id))≠[]:=by rw[hd];simp
  have:=List.head_dropWhile_not (fun x=>decide (x<id)) bj;have e:(l.dropWhile (fun x=>decide (x<id))).head bj=l[wZ l id]:=by
   unfold wZ;simp_all
  simp_all
 by_cases e:x=wZ l id
 ·rw[e];omega
 ·have:=List.pairwise_iff_getElem.1 ha (wZ l id) x hi hl (by omega);grind
theorem yUd {l}(ha:ng l) id:(decide (wZ l id<l.length)&&decide (l.getD (wZ l id) 0=id))=decide (id∈l):=by
 by_cases hm:id∈l
 ·obtain⟨x,hx,e⟩:=List.getElem_of_mem hm;have e':l.getD x 0=id:=by simp_all
  have h1:¬x<wZ l id:=fun h=>by have:=yRc x h;omega
  have h3:wZ l id<l.length:=by omega
  have h4:¬wZ l id<x:=fun h=>by
   have g1:=qUk ha (id:=id) (wZ l id) (by simp) h3;have g2:=List.pairwise_iff_getElem.1 ha (wZ l id) x h3 hx h;grind
  grind
 grind
def nh (l:AC)(id:Int):AC:=l.takeWhile (fun x=>decide (x<id))++(id::l.dropWhile (fun x=>decide (x<id)))
theorem yDv {k l}(bI:l.length<k)(hl:l.length≤1000)(ha:ng l) id:BN k l id=some ((wZ l id:Int),decide (id∈l)):=by
 rw[vI1 bI hl (wv _ l) yRc (qUk ha)];show some ((wZ l id:Int),decide (wZ l id<l.length)&&decide (l.getD (wZ l id) 0=id))=_;rw[yUd ha]
theorem vA7 {k l}(bI:l.length<k)(hl:l.length≤1000)(ha:ng l) id:KM k l id=some (decide (id∈l)):=by
 unfold KM;rw[yDv bI hl ha];rfl
theorem vIb {k l}(bI:l.length<k)(hl:l.length≤1000)(ha:ng l) id:
  BO k l id=some (bif decide (id∈l) then(l,6) else bif decide (200≤l.length) then(l,3) else(nh l id,0)):=by
 unfold BO;rw[yDv bI hl ha];by_cases hm:id∈l
 ·simp_all
 ·rw[ai hm];by_cases h:200≤l.length
  ·grind
  ·rw[ai h,ai (by grind)];have e2:mX k l=some l:=by
    unfold mX;rw[qT (by omega) (by omega)];rfl
   simp[e2,yPz];unfold wZ;rw[QM _ l id hl (by decide)];rfl
def gb (l:AC):Int:=zM (fun x=>x) l
def sZ (x:Int):Bool:=decide (-9223372036854775808≤x)&&decide (x<9223372036854775808)
theorem yFe x:shr .i64 x 63=x/9223372036854775808:=by
 show x.fdiv (2^(min 63 64))=_;grind
theorem ni x:IntKind.wrap .u64 x=x%18446744073709551616:=by
 rfl
theorem vI7 {x}(h:0≤x∧x<18446744073709551616):zA x=if x<9223372036854775808 then x else x-18446744073709551616:=by
 unfold zA IntKind.wrap;simp[IntKind.bits,IntKind.signed];grind
theorem vEf (l:AC) i (hi:i<l.length):gb (l.take (i+1))=gb (l.take i)+l.getD i 0:=by
 have:l.take (i+1)=l.take i++[l.getD i 0]:=by
  simp_all
 unfold gb;rw[this,iy];simp[zM]
theorem yBw {k l}(hk:l.length<k)(hl:l.length≤1000000)(hw:∀i,i<l.length→-9223372036854775808≤l.getD i 0∧l.getD i 0<9223372036854775808):
  BP k l=some (bif sZ (gb l) then(gb l,true) else(0,false)):=by
 obtain ⟨s', g1, g2, g3, g4⟩ := yZ (L := fun n i (s : Int × Int) => BQ k n s.1 s.2 l (l.length : Int) i) (N := l.length) (fun s => (s.1, s.2)) (fun i s => (0 ≤ s.2 ∧ s.2 < 18446744073709551616) ∧ s.1 * 18446744073709551616 + s.2 = gb (l.take i) ∧ (-(i : Int) ≤ s.1 ∧ s.1 ≤ i)) (fun n s _=>by
  show BR k _ s.1 s.2 l l.length l.length=_;unfold BR;simp only [qM, ai (Nat.lt_irrefl _), ay]) (fun n i s hi hs=>by
  obtain⟨h,lo⟩:=s;obtain⟨⟨h1,h2⟩,h3,h4⟩:=hs;simp only at h1 h2 h3 h4;show∃s',BR k _ h lo l l.length i=_∧_;unfold BR As;have hb:=hw i hi;have hsn:=vEf l i hi;obtain⟨v,hv⟩:∃v,l.getD i 0=v:=⟨_,rfl⟩;rw[hv] at hb hsn;simp only[qM,zW,aC,ag hi,av,hv,ni,yFe,decide_true,ak,qD hi (show l.length<9223372036854775808 by omega)];obtain⟨u,hu⟩:∃u,v%18446744073709551616=u:=⟨_,rfl⟩;rw[hu];obtain⟨q,hq⟩:∃q,v/9223372036854775808=q:=⟨_,rfl⟩;rw[hq];have nJ:u=v-q*18446744073709551616:=by omega
  have mg:q=0∨q= -1:=by omega
  obtain⟨a,ha⟩:∃a:Nat,lo.toNat+u.toNat+0=a:=⟨_,rfl⟩;rw[ha];have nG:(a:Int)=lo+u:=by omega
  obtain⟨c,hc⟩:∃c:Nat,a/18446744073709551616=c:=⟨_,rfl⟩;obtain⟨m,hm⟩:∃c:Nat,a%18446744073709551616=c:=⟨_,rfl⟩;rw[hc,hm];have hcm:a=c*18446744073709551616+m:=by omega
  have sD:m<18446744073709551616:=by omega
  have jh:c≤1:=by omega
  have e1:zA (Int.ofNat c)=(c:Int):=zN (by show(_:Int)≤((c:Nat):Int);omega) (by show((c:Nat):Int)<_;omega);have e2:zA (q+(c:Int))=q+c:=zN (by omega) (by omega);have e3:zA (h+(q+(c:Int)))=h+(q+c):=zN (by omega) (by omega);rw[e1,e2,e3];refine⟨(h+(q+c),(m:Int)),rfl,by grind,?_,?_⟩
  ·rw[hsn];show(h+(q+c))*18446744073709551616+(m:Int)=_;omega
  ·show-((i+1:Nat):Int)≤h+(q+c)∧h+(q+c)≤((i+1:Nat):Int);omega) (s:=(0,0)) hk ⟨⟨by show(0:Int)≤0;omega,by show(0:Int)<_;omega⟩,rfl,by show-((0:Nat):Int)≤0;omega,by show(0:Int)≤((0:Nat):Int);omega⟩
 have wx:BQ k k 0 0 l (l.length:Int) 0=some (s'.1,s'.2):=g1;rw[List.take_length] at g3;unfold BP;rw[wx];simp only[ak,yFe];rw[vI7 g2];by_cases c:sZ (gb l)=true
 ·have c':-9223372036854775808≤gb l∧gb l<9223372036854775808:=by simpa[sZ] using c
  rw[c];by_cases d:s'.2<9223372036854775808
  ·rw[if_pos d,ag (show s'.1=s'.2/9223372036854775808 by omega)];simp only[bG,ay,av];rw[show s'.2=gb l by omega]
  ·rw[if_neg d,ag (show s'.1=(s'.2-18446744073709551616)/9223372036854775808 by omega)];simp only[bG,ay,av];rw[show s'.2-18446744073709551616=gb l by omega]
 ·have c':¬(-9223372036854775808≤gb l∧gb l<9223372036854775808):=by simpa[sZ] using c
  rw[Bool.not_eq_true] at c;rw[c];by_cases d:s'.2<9223372036854775808
  ·rw[if_pos d,ai (show¬s'.1=s'.2/9223372036854775808 by omega)];rfl
  ·rw[if_neg d,ai (by grind)];rfl
theorem QS {x}(h:0≤x):yA .u64 x 4294967295=x%4294967296:=by
 obtain⟨n,rfl⟩:=Int.eq_ofNat_of_zero_le h;unfold yA oZ;rw[ni];have e1:(BitVec.ofInt IntKind.u64.bits (n:Int)&&&BitVec.ofInt IntKind.u64.bits 4294967295).toNat=n%4294967296:=by
  rw[BitVec.toNat_and,BitVec.toNat_ofInt,BitVec.toNat_ofInt];have e2:((4294967295:Int)%((2^IntKind.u64.bits:Nat):Int)).toNat=2^32-1:=by decide
  rw[e2,Nat.and_two_pow_sub_one_eq_mod];have e3:((n:Int)%((2^IntKind.u64.bits:Nat):Int)).toNat=n%18446744073709551616:=by
   rfl
  omega
 grind
theorem yVr x:shr .u64 x 32=x/4294967296:=by
 show x.fdiv (2^(min 32 64))=_;grind
theorem vMd {a1 a0 b1 b0:Int}:(a1*4294967296+a0)*(b1*4294967296+b0)=a1*b1*18446744073709551616+(a1*b0+a0*b1)*4294967296+a0*b0:=by
 grind
theorem vL {a b A B:Int}(h0:0≤a)(h1:a≤A)(g0:0≤b)(g1:b≤B):0≤a*b∧a*b≤A*B:=
 ⟨Int.mul_nonneg h0 g0,Int.mul_le_mul h1 g1 g0 (by omega)⟩
theorem yPd (k:Nat){x y:Int}(hx:0≤x∧x<18446744073709551616)(hy:0≤y∧y<18446744073709551616):Gx k x y=some (x*y/18446744073709551616,x*y%18446744073709551616):=by
 unfold Gx;simp only[yVr,QS hx.1,QS hy.1,ni];obtain⟨a1,h1⟩:∃a,x/4294967296=a:=⟨_,rfl⟩;obtain⟨a0,h0⟩:∃a,x%4294967296=a:=⟨_,rfl⟩;obtain⟨b1,g1⟩:∃a,y/4294967296=a:=⟨_,rfl⟩;obtain⟨b0,g0⟩:∃a,y%4294967296=a:=⟨_,rfl⟩;have hxe:x=a1*4294967296+a0:=by omega
 have hye:y=b1*4294967296+b0:=by omega
 rw[h1,h0,g1,g0];have KN:0≤a1∧a1≤4294967295:=by omega
 have kX:0≤a0∧a0≤4294967295:=by omega
 have gE:0≤b1∧b1≤4294967295:=by omega
 have KO:0≤b0∧b0≤4294967295:=by omega
 have p11:=vL KN.1 KN.2 gE.1 gE.2;have pN:=vL KN.1 KN.2 KO.1 KO.2;have p01:=vL kX.1 kX.2 gE.1 gE.2;have p00:=vL kX.1 kX.2 KO.1 KO.2;have Kh:x*y=a1*b1*18446744073709551616+(a1*b0+a0*b1)*4294967296+a0*b0:=by rw[hxe,hye,vMd]
 rw[Kh];generalize a1*b1=u at*
 generalize a1*b0=v at*
 generalize a0*b1=s at*
 generalize a0*b0=t at*
 have c1:(t%18446744073709551616)=t:=by omega
 have c2:(v%18446744073709551616+t/4294967296)%18446744073709551616=v+t/4294967296:=by omega
 rw[c1,c2];have Gy:yA .u64 (v+t/4294967296) 4294967295=(v+t/4294967296)%4294967296:=QS (by omega);rw[Gy];refine congrArg some (Prod.ext ?_ ?_)
 ·show _%_=_/_;omega
 ·rfl
theorem vOj k {x}(hx:0≤x∧x<18446744073709551616):KP k 0 x 10000=some (x/10000,x%10000):=by
 unfold KP;have e1:decide ((10000:Int)=0)=false:=rfl;have e2:decide ((10000:Int)≤0)=false:=rfl;simp[ni];grind
def qb (price many cut:Int):Int:=price*many*(10000-cut)/10000
theorem yS2 {p m c}(hp:0≤p∧p≤1048576)(hm:0≤m∧m≤1099511627776)(hc:0≤c∧c≤10000):0≤qb p m c∧qb p m c≤1152921504606846976:=by
 have h1:=vL hp.1 hp.2 hm.1 hm.2;have h2:=vL h1.1 h1.2 (by grind) (show 10000-c≤10000 by omega);unfold qb;omega
theorem yW9 k {p m c}(hp:0≤p∧p≤1048576)(hm:0≤m∧m≤1099511627776)(hc:0≤c∧c≤10000):KQ k p m c=some (qb p m c,true):=by
 unfold KQ QT;have w1:zA (10000-c)=10000-c:=zN (by omega) (by omega);have e1:decide (p<0)=false:=ai (by omega);have e2:decide (m<0)=false:=ai (by omega);have e3:decide (c≥0)=true:=ag (by omega);have e4:decide (c≤10000)=true:=ag (by omega);have u1:p%18446744073709551616=p:=by omega
 have u2:m%18446744073709551616=m:=by omega
 have u3:(10000-c)%18446744073709551616=10000-c:=by omega
 have h1:=vL hp.1 hp.2 hm.1 hm.2;have hP:p*m/18446744073709551616=0:=by omega
 have hP2:p*m%18446744073709551616=p*m:=by omega
 have t0:Int.tmod 0 10000=0:=by simp
 have t1:Int.tdiv 0 10000=0:=by simp
 rw[e1,e2,e3,e4,ay,ay,av,ak,bG,ay,ni p,ni m,u1,u2,yPd k (by grind) (by grind),ak,hP,hP2];dsimp only;rw[t0,t1,vOj k (by grind),ak];dsimp only;rw[w1,ni (10000-c),u3];unfold qb;obtain⟨l,hl⟩:∃l,10000-c=l:=⟨_,rfl⟩;rw[hl];obtain⟨P,hPe⟩:∃P,p*m=P:=⟨_,rfl⟩;rw[hPe] at h1⊢;have dt:0≤l∧l≤10000:=by omega
 rw[yPd k (by grind) (by grind)];have hq:=vL (show 0≤P/10000 by omega) (show P/10000≤115292150460684 by omega) dt.1 dt.2;have hr:=vL (show 0≤P%10000 by omega) (show P%10000≤9999 by omega) dt.1 dt.2;have wy:P*l=P/10000*l*10000+P%10000*l:=by
  grind
 rw[wy];generalize P/10000*l=a at*
 generalize P%10000*l=b at*
 have v1:a/18446744073709551616=0:=by omega
 have v2:a%18446744073709551616=a:=by omega
 have v3:b%18446744073709551616=b:=by omega
 have v4:Int.tdiv b 10000=b/10000:=Int.tdiv_eq_ediv_of_nonneg hr.1;have v5:b/10000%18446744073709551616=b/10000:=by omega
 have ha:As k a (b/10000) 0=some (a+b/10000,0):=by
  have n1:(Int.ofNat ((a.toNat+(b/10000).toNat+0)%18446744073709551616))=a+b/10000:=by rw[Int.ofNat_eq_natCast];omega
  have n2:(Int.ofNat ((a.toNat+(b/10000).toNat+0)/18446744073709551616))=0:=by rw[Int.ofNat_eq_natCast];omega
  unfold As;rw[ag rfl,av,n1,n2]
 rw[ak];dsimp only;rw[v1,v2,ni b,v3,v4,ni (b/10000),v5,ha,ak];dsimp only;have z1:IntKind.wrap .u64 0=0:=by rw[ni];omega
 have z2:IntKind.wrap .u64 (0+0)=0:=by rw[ni];omega
 have z5:zA (a+b/10000)=a+b/10000:=zN (by omega) (by omega);grind
abbrev mh:=Int×Int
abbrev fK:mh:=(0,0)
def ly (sa:List mh)(pr h:AC)(i:Nat):Int:=qb (pr.getD i 0) (h.getD i 0) (sa.getD i fK).2
def gM (sa:List mh)(pr h:AC):Int:=qE (ly sa pr h) sa.length
structure gO (sa:List mh) (pr h:AC):Prop where
 n3:sa.length≤3
 pl:pr.length=sa.length
 hl:h.length=sa.length
 cut:∀i,i<sa.length→0≤(sa.getD i fK).2∧(sa.getD i fK).2≤10000
 price:∀i,i<sa.length→0≤pr.getD i 0∧pr.getD i 0≤1048576
 hold:∀i,i<sa.length→0≤h.getD i 0∧h.getD i 0≤1099511627776
theorem Gz {sa pr h}(L:gO sa pr h){i}(hi:i<sa.length):0≤ly sa pr h i∧ly sa pr h i≤1152921504606846976:=yS2 (L.price i hi) (L.hold i hi) (L.cut i hi)
theorem QU g:∀n,gb ((List.range n).map g)=qE g n
 |0=>rfl
 |n+1=>by
  rw[List.range_succ,List.map_append];unfold gb;rw[iy];have:=QU g n;unfold gb at this;rw[this];show qE g n+(g n+0)=qE g n+g n;omega
theorem KR {g A}:∀{n},(∀j,j<n→0≤g j∧g j≤A)→0≤qE g n∧qE g n≤n*A
 |0,_=>by simp[qE]
 |n+1,h=>by
  have h1:=KR (n:=n) (fun j hj=>h j (by omega));have h2:=h n (by omega);have h3:((n+1:Nat):Int)*A=n*A+A:=by grind
  show 0≤qE g n+g n∧qE g n+g n≤_;omega
theorem vQ2 {k:Nat}{sa:List mh}{pr h:AC}(L:gO sa pr h)(hk:10≤k):BS k k pr h sa sa.length 0 []=some (.inl ((List.range sa.length).map (ly sa pr h))):=by
 have hn:=L.n3;obtain ⟨s', h1, h2⟩ := yZ (L := fun n i (s : AC) => BS k n pr h sa sa.length i s) (N := sa.length) (fun s => .inl s) (fun i s => s = (List.range i).map (ly sa pr h)) (fun n s _=>by
  show BU k _ pr h sa sa.length sa.length s=_;unfold BU;simp only [qM, ai (Nat.lt_irrefl _), ay]) (fun n i s hi hs=>by
  refine⟨s++[ly sa pr h i],?_,?_⟩
  ·show BU k _ pr h sa sa.length i s=_;unfold BU;have dP:s.length≤3:=by rw[hs,List.length_map,List.length_range];omega
   have hw:=yW9 k (L.price i hi) (L.hold i hi) (L.cut i hi);simp only[qM,zW,aC,ag hi,ag (show i<pr.length by rw[L.pl];exact hi),ag (show i<h.length by rw[L.hl];exact hi),av,qD hi (show sa.length<9223372036854775808 by omega)];rw[hw];simp only[ak,bG,ay,qT (show(s.length+1)*8≤140737488355328 by omega) (show s.length+1≤140737488355328 by omega),av];rfl
  ·rw[hs,List.range_succ,List.map_append];rfl) (s:=[]) (show sa.length<k by omega) rfl
 have eL:BS k k pr h sa sa.length 0 []=_:=h1;rw[eL,h2]
theorem QV {k sa pr h}(L:gO sa pr h)(hk:10≤k):oE k sa pr h=some (gM sa pr h,true):=by
 have hn:=L.n3;have hb:=KR (g:=ly sa pr h) (n:=sa.length) (fun j hj=>Gz L hj);unfold oE;have e1:decide ((pr.length:Int)=(sa.length:Int))=true:=ag (by rw[L.pl]);have e2:decide ((h.length:Int)=(sa.length:Int))=true:=ag (by rw[L.hl]);simp[e1,e2];rw[vQ2 L hk];simp;rw [yBw (by grind) (by grind) (fun i hi=>by
  rw[List.length_map,List.length_range] at hi;have:=Gz L hi;grind)]
 rw[QU];have e3:sZ (qE (ly sa pr h) sa.length)=true:=by
  unfold sZ;grind
 rw[e3];rfl
theorem BV {sa pr h}(L:gO sa pr h):0≤gM sa pr h:=(KR (g:=ly sa pr h) (n:=sa.length) (fun j hj=>Gz L hj)).1
theorem yL4 {k l}(hl:l.length≤1000){i}(h0:0≤i)(h1:i<l.length) v:nj k l i v=some (l.set i.toNat v):=by
 unfold nj;have e2:mX k l=some l:=by
  unfold mX;rw[qT (by omega) (by omega)];rfl
 simp[e2,ag (show i≥0 by omega),ag h1,av,vx h0 h1]
abbrev BT:=List qQ×EQ×AC×EQ
def qL (B:BT):Prop:=wB B.1 B.2.1 B.2.2.1 B.2.2.2
theorem BW {k}(hk:100<k){B}(h:qL B){l:List zG}(hl:l.length≤80):
  ∃r,mZ k B.1 B.2.1 B.2.2.1 B.2.2.2 l=some r∧we k B.1 B.2.1 B.2.2.1 B.2.2.2 l=some r∧ow B.1 B.2.1 B.2.2.1 B.2.2.2 l r:=by
 obtain⟨r,h1,h2⟩:=Ki hk h hl;obtain⟨r',h3,h4⟩:=vIo hk h hl;have:=h2.same h4;simp_all
def ta (B:BT)(l:List zG):Bool:=sV B.1 B.2.1 B.2.2.1 B.2.2.2 l
def fL (k:Nat)(B:BT)(l:List zG):Option BT:=match mZ k B.1 B.2.1 B.2.2.1 B.2.2.2 l with
 |some r=>bif decide (r.2.2.2.2=0)&&ta B l then some (r.1,r.2.1,r.2.2.1,r.2.2.2.1) else none
 |none=>none
theorem oF {k}(hk:100<k){B C}(h:qL B){l}(hl:l.length≤80)(hg:fL k B l=some C):qL C∧C.1.length=B.1.length:=by
 obtain⟨r,h1,h2,h3⟩:=BW hk h hl;unfold fL at hg;rw[h1] at hg;simp only at hg;cases hc:decide (r.2.2.2.2=0)&&ta B l with
 |false=>
  simp_all
 |true=>
  rw[hc] at hg;simp  at hg;subst hg;refine⟨(Kj h h3).2.1,?_⟩;by_cases c:vK B.1.length l
  ·obtain⟨a',p',x,e⟩:=h3.1 c;cases hi:j5 a' B.2.1 B.2.2.1 p' with
   |false=>simp_all
   |true=>rw[hi] at e;subst e;exact x.al
  ·rw[h3.2 c]
def jT (k:Nat)(B:BT):List zG→Option (zG×BT)
 |[]=>none
 |p::l=>match fL k B [p] with
  |some C=>some (p,C)
  |none=>jT k B l
theorem wz {k B C p}:∀{l},jT k B l=some (p,C)→p∈l∧fL k B [p]=some C
 |q::l,h=>by
  unfold jT at h;cases hg:fL k B [q] with
  |some D=>
   simp_all
  |none=>
   rw[hg] at h;have:=wz h;simp_all
theorem yAv k B {m:List zG}{i}(hi:i<m.length):jT k B (m.drop i)=match fL k B [m.getD i pd] with
  |some C=>some (m.getD i pd,C)
  |none=>jT k B (m.drop (i+1)):=by
 rw[List.drop_eq_getElem_cons hi];have e:m.getD i pd=m[i]:=by simp_all
 rw[e];rfl
theorem KS l t:(vO l t).length≤l.length:=Nat.le_trans (List.length_filter_le _ _) (by grind)
theorem yVn m i (hi:i<m.length):qW m (0+i) (i+1-i)=[m.getD i pd]:=by
 unfold qW;rw[Nat.zero_add,show i+1-i=1 by omega,List.drop_eq_getElem_cons hi,List.getD_eq_getElem?_getD,List.getElem?_eq_getElem hi];rfl
def jB (l:List zG)(id:Int):List zG:=(fJ l id).1
theorem qc {l p}(h:p∈l):(jB l p.1).length+1=l.length∧List.Sublist (jB l p.1) l:=by
 obtain⟨x,hx⟩:=KD h;unfold jB fJ;rw[hx];have:=(iz hx).1;refine⟨?_,qa l x⟩;rw[lv this];omega
theorem BX {l t p}(h:p∈vO l t):p∈l:=(List.mem_filter.1 (List.mem_filter.1 h).1).1
inductive fj (k:Nat) (t:Int):BT→List zG→List zG→BT→List zG→Prop
 |stop {B:BT} {l:List zG} (h:jT k B (vO l t)=none):fj k t B l [] B l
 |step {B C D:BT} {l m done:List zG} {p:zG} (h:jT k B (vO l t)=some (p,C)) (h':fj k t C (jB l p.1) done D m):fj k t B l (p::done) D m
theorem yIt {k}(hk:100<k){B}(h:qL B){l:List zG}(hl:l.length≤80):wk k B.1 B.2.1 B.2.2.1 B.2.2.2 l=some (ta B l):=vJo hk h hl
theorem yI6 {k}(hk:100<k){B}(h:qL B)(m:List zG)(hm:m.length≤1000):∀c i n,i+c=m.length→c<n→
  GA k n m.length i B.1 B.2.1 B.2.2.1 B.2.2.2 0 0 0 0 0 0 0 m = some (match jT k B (m.drop i) with
   |some (p,C)=>.inr (true,p.1,p.2.1,p.2.2.1,p.2.2.2.1,p.2.2.2.2.1,p.2.2.2.2.2.1,p.2.2.2.2.2.2,C.1,C.2.1,C.2.2.1,C.2.2.2)
   |none=>.inl (B.1,B.2.1,B.2.2.1,B.2.2.2,0,0,0,0,0,0,0))
 |0,i,n,e,hn=>by
  obtain⟨n,rfl⟩:∃x,n=x+1:=⟨n-1,by omega⟩;have:i=m.length:=by omega
  subst this;show BY k _ m.length m.length B.1 B.2.1 B.2.2.1 B.2.2.2 0 0 0 0 0 0 0 m=_;unfold BY;simp;rfl
 |c+1,i,n,e,hn=>by
  obtain⟨n,rfl⟩:∃x,n=x+1:=⟨n-1,by omega⟩;have hi:i<m.length:=by omega
  have ih:=yI6 hk h m hm c (i+1) n (by omega) (by omega);show BY k _ m.length i B.1 B.2.1 B.2.2.1 B.2.2.2 0 0 0 0 0 0 0 m=_;unfold BY;obtain⟨r,h1,h2,h3⟩:=BW hk h (l:=[m.getD i pd]) (by simp);have hf:=yIt hk h (l:=[m.getD i pd]) (by simp);simp[zW,qD hi (by grind)];rw[yAv k B hi];unfold fL;grind
def yL9 (B:BT)(x:Option (zG×BT)):Int×Int×Int×Int×Int×Int×Int×(List (Int×Int×Int))×EQ×AC×EQ×Bool:=match x with
 |some (p,C)=>(p.1,p.2.1,p.2.2.1,p.2.2.2.1,p.2.2.2.2.1,p.2.2.2.2.2.1,p.2.2.2.2.2.2,C.1,C.2.1,C.2.2.1,C.2.2.2,true)
 |none=>(0,0,0,0,0,0,0,B.1,B.2.1,B.2.2.1,B.2.2.2,false)
theorem yZ5 {k}(hk:100<k){B}(h:qL B){l}(bI:l.length<k)(hl:qN l)(hd:qI l) t:KT k B.1 B.2.1 B.2.2.1 B.2.2.2 l t=some (yL9 B (jT k B (vO l t))):=by
 unfold KT;rw[yPi bI hl hd];have BZ:=KS l t;unfold qN at hl;have:=yI6 hk h (vO l t) (by omega) (vO l t).length 0 k (by omega) (by omega);have e:((0:Nat):Int)=0:=rfl;rw[e,List.drop_zero] at this;simp;rw[this];cases jT k B (vO l t) with
 |none=>rfl
 |some x=>rfl
theorem yFc {k}(hk:100<k) t:∀n B (l r:List zG),qL B→qI l→l.length≤100→l.length<n→r.length+l.length≤1000→
  ∃(C:BT) (m done:List zG),GB k n t l B.1 B.2.1 B.2.2.1 B.2.2.2 r=some (m,C.1,C.2.1,C.2.2.1,C.2.2.2,r++done)∧fj k t B l done C m∧qL C∧C.1.length=B.1.length∧List.Sublist m l
 |n+1,B,l,r,hb,hd,hl,hn,hr=>by
  have h1:=yZ5 hk hb (l:=l) (by omega) (by show l.length≤1000;omega) hd t;cases hx:jT k B (vO l t) with
  |none=>
   rw[hx] at h1;refine⟨B,l,[],?_,.stop hx,hb,rfl,by simp⟩;show B1 k _ t l B.1 B.2.1 B.2.2.1 B.2.2.2 r=_;unfold B1;rw[h1];simp only[ak,yL9,fZ,av,List.append_nil]
  |some x=>
   obtain⟨p,C⟩:=x;rw[hx] at h1;obtain⟨hp,hg⟩:=wz hx;have zl:=BX hp;obtain⟨pt,kZ⟩:=qc zl;obtain⟨mP,cU⟩:=oF hk hb (by simp) hg;obtain⟨D,m,done,g1,g3,g4,g5,g6⟩:=yFc hk t n C (jB l p.1) (r++[p]) mP (List.Pairwise.sublist kZ hd) (by omega) (by omega) (by grind);refine⟨D,m,p::done,?_,.step hx g3,g4,by grind,g6.trans kZ⟩;show B1 k _ t l B.1 B.2.1 B.2.2.1 B.2.2.2 r=_;unfold B1;rw[h1];simp[wu (show l.length<k by omega) (show qN l by show l.length≤1000;omega),lu (show r.length≤1000 by omega)];rw[List.append_cons r p done,←g1];rfl
theorem vQ1 {k}(hk:200≤k){B}(hb:qL B){l}(hd:qI l)(hl:l.length≤100) t:
  ∃(C:BT) (m done:List zG),KU k B.1 B.2.1 B.2.2.1 B.2.2.2 l t=some (C.1,C.2.1,C.2.2.1,C.2.2.2,m,done)∧fj k t B l done C m∧qL C∧C.1.length=B.1.length∧List.Sublist m l:=by
 obtain⟨C,m,done,h1,h3⟩:=yFc (show 100<k by omega) t k B l [] hb hd hl (by omega) (by grind);refine⟨C,m,done,?_,h3⟩;unfold KU;simp_all
def nk (p q:zG):Bool:=decide (q.2.1=p.2.2.1)&&(decide (q.2.2.1=p.2.1)&& !decide (p.2.1≥q.2.1))
def mi (k:Nat)(B:BT)(p:zG):List zG→Option (zG×BT)
 |[]=>none
 |q::l=>match(bif nk p q then fL k B [p,q] else none) with
  |some C=>some (q,C)
  |none=>mi k B p l
def oG (k:Nat)(B:BT)(m:List zG):List zG→Option (zG×zG×BT)
 |[]=>none
 |p::l=>match mi k B p m with
  |some (q,C)=>some (p,q,C)
  |none=>oG k B m l
theorem QW {k B C p q}:∀{l},mi k B p l=some (q,C)→q∈l∧nk p q=true∧fL k B [p,q]=some C
 |r::l,h=>by
  unfold mi at h;cases hd:nk p r with
  |false=>
   rw[hd] at h;have:=QW (l:=l) h;simp_all
  |true=>
   rw[hd] at h;cases hg:fL k B [p,r] with
   |some D=>
    simp_all
   |none=>
    rw[hg] at h;have:=QW (l:=l) h;simp_all
theorem KV {k B C p q m}:∀{l},oG k B m l=some (p,q,C)→p∈l∧q∈m∧nk p q=true∧fL k B [p,q]=some C
 |r::l,h=>by
  unfold oG at h;cases hq:mi k B r m with
  |some x=>
   rw[hq] at h;cases h;exact⟨by simp,QW hq⟩
  |none=>
   rw[hq] at h;have:=KV (l:=l) h;simp_all
theorem yQu {α:Type}{l:List α}{i} h d:l.getD i d=l[i]:=by
 simp_all
theorem yQ9 k B p {m:List zG}{i}(hi:i<m.length):mi k B p (m.drop i)=match(bif nk p (m.getD i pd) then fL k B [p,m.getD i pd] else none) with
  |some C=>some (m.getD i pd,C)
  |none=>mi k B p (m.drop (i+1)):=by
 rw[List.drop_eq_getElem_cons hi,yQu hi];rfl
theorem yMt k B r {m:List zG}{i}(hi:i<m.length):oG k B r (m.drop i)=match mi k B (m.getD i pd) r with
  |some (q,C)=>some (m.getD i pd,q,C)
  |none=>oG k B r (m.drop (i+1)):=by
 rw[List.drop_eq_getElem_cons hi,yQu hi];rfl
def jN (k:Nat)(B:BT)(l:List zG)(t:Int):Option (zG×zG×BT):=oG k B (vO l t) (vO l t)
theorem vL0 {l x q}(hx:x<l.length)(h:q∈l)(bj:q≠l.getD x pd):q∈qU l x:=by
 unfold qU;have e:=KC l x pd hx;grind
theorem qI.eq_of {l}(h:qI l){p q}(hp:p∈l)(hq:q∈l)(e:p.1=q.1):p=q:=by
 obtain⟨i,hi,ei⟩:=List.getElem_of_mem hp;obtain⟨j,hj,ej⟩:=List.getElem_of_mem hq;have hl:=List.pairwise_iff_getElem.1 h;grind
theorem QX {l p q}(hp:p∈l)(hq:q∈l)(bj:q.1≠p.1):q∈jB l p.1:=by
 obtain⟨x,hx⟩:=KD hp;unfold jB fJ;rw[hx];have:=iz hx;exact vL0 this.1 hq (by grind)
def w4 (l:List zG)(p q:zG):List zG:=jB (jB l p.1) q.1
theorem B2 {k B C l t p q}(h:jN k B l t=some (p,q,C)):p∈l∧q∈l∧nk p q=true∧fL k B [p,q]=some C:=by
 obtain⟨h1,h2,h3⟩:=KV h;exact⟨BX h1,BX h2,h3⟩
theorem yL6 {l}(hd:qI l){p q}(hp:p∈l)(hq:q∈l)(h:nk p q=true):q.1≠p.1:=by
 intro e;have:=hd.eq_of hq hp e;subst this;unfold nk at h;simp at h
theorem B3 {l}(hd:qI l){p q}(hp:p∈l)(hq:q∈l)(h:nk p q=true):(w4 l p q).length+2=l.length∧List.Sublist (w4 l p q) l:=by
 obtain⟨h1,h2⟩:=qc hp;obtain⟨h3,h4⟩:=qc (QX hp hq (yL6 hd hp hq h));unfold w4;exact⟨by omega,h4.trans h2⟩
inductive wR (k:Nat) (t:Int):BT→List zG→List zG→BT→List zG→Prop
 |stop {B:BT} {l:List zG} (h:jN k B l t=none):wR k t B l [] B l
 |step {B C D:BT} {l m done:List zG} {p q:zG} (h:jN k B l t=some (p,q,C)) (h':wR k t C (w4 l p q) done D m):wR k t B l (p::q::done) D m
theorem wR.length {k t B C l done m}(h:wR k t B l done C m)(hd:qI l):done.length+m.length=l.length∧done.length%2=0:=by
 induction h with
 |stop _=>simp
 |step h _ ih=>
  obtain⟨hp,hq,mj,_⟩:=B2 h;obtain⟨h1,h2⟩:=B3 hd hp hq mj;have:=ih (List.Pairwise.sublist h2 hd);grind
theorem wR.sub {k t B C l done m}(h:wR k t B l done C m)(hd:qI l):List.Sublist m l:=by
 induction h with
 |stop _=>simp
 |step h _ ih=>
  obtain⟨hp,hq,mj,_⟩:=B2 h;obtain⟨h1,h2⟩:=B3 hd hp hq mj;exact(ih (List.Pairwise.sublist h2 hd)).trans h2
theorem yJw {k}(hk:100<k){B}(h:qL B)(m:List zG)(hm:m.length≤1000) p dm cz:∀c i n,i+c=m.length→c<n→
  GC k n dm cz m.length i B.1 B.2.1 B.2.2.1 B.2.2.2 0 0 0 0 0 0 0 0 0 0 0 0 0 0 m p.1 p.2.1 p.2.2.1 p.2.2.2.1 p.2.2.2.2.1 p.2.2.2.2.2.1 p.2.2.2.2.2.2 = some (match mi k B p (m.drop i) with
   |some (q,C)=>.inr (true,p.1,p.2.1,p.2.2.1,p.2.2.2.1,p.2.2.2.2.1,p.2.2.2.2.2.1,p.2.2.2.2.2.2,q.1,q.2.1,q.2.2.1,q.2.2.2.1,q.2.2.2.2.1,q.2.2.2.2.2.1,q.2.2.2.2.2.2,C.1,C.2.1,C.2.2.1,C.2.2.2)
   |none=>.inl (dm,cz,B.1,B.2.1,B.2.2.1,B.2.2.2,0,0,0,0,0,0,0,0,0,0,0,0,0,0,m))
 |0,i,n,e,hn=>by
  obtain⟨n,rfl⟩:∃x,n=x+1:=⟨n-1,by omega⟩;have:i=m.length:=by omega
  subst this;show B4 k _ dm cz m.length m.length B.1 B.2.1 B.2.2.1 B.2.2.2 0 0 0 0 0 0 0 0 0 0 0 0 0 0 m p.1 p.2.1 p.2.2.1 p.2.2.2.1 p.2.2.2.2.1 p.2.2.2.2.2.1 p.2.2.2.2.2.2=_;unfold B4;simp;rfl
 |c+1,i,n,e,hn=>by
  obtain⟨n,rfl⟩:∃x,n=x+1:=⟨n-1,by omega⟩;have hi:i<m.length:=by omega
  have ih:=yJw hk h m hm p dm cz c (i+1) n (by omega) (by omega);show B4 k _ dm cz m.length i B.1 B.2.1 B.2.2.1 B.2.2.2 0 0 0 0 0 0 0 0 0 0 0 0 0 0 m p.1 p.2.1 p.2.2.1 p.2.2.2.1 p.2.2.2.2.1 p.2.2.2.2.2.1 p.2.2.2.2.2.2=_;unfold B4;obtain⟨r,h1,h2,h3⟩:=BW hk h (l:=[p,m.getD i pd]) (by simp);have hf:=yIt hk h (l:=[p,m.getD i pd]) (by simp);have eL:mZ k B.1 B.2.1 B.2.2.1 B.2.2.2 [(p.1,p.2.1,p.2.2.1,p.2.2.2.1,p.2.2.2.2.1,p.2.2.2.2.2.1,p.2.2.2.2.2.2),m.getD i (0,(0,(0,(0,(0,(0,0))))))]=some r:=h1;have dG:wk k B.1 B.2.1 B.2.2.1 B.2.2.2 [(p.1,p.2.1,p.2.2.1,p.2.2.2.1,p.2.2.2.2.1,p.2.2.2.2.2.1,p.2.2.2.2.2.2),m.getD i (0,(0,(0,(0,(0,(0,0))))))]=some (ta B [p,m.getD i pd]):=hf;simp only[zW,qD hi (by grind),qM,aC,ag hi];rw[yQ9 k B p hi];unfold nk;cases decide ((m.getD i pd).2.1=p.2.2.1) with
  |false=>exact ih
  |true=>
   cases decide ((m.getD i pd).2.2.1=p.2.1) with
   |false=>exact ih
   |true=>
    cases decide (p.2.1≥(m.getD i pd).2.1) with
    |true=>exact ih
    |false=>
     unfold fL;grind
theorem qX0 {k}(hk:100<k){B}(h:qL B)(m:List zG)(hm:m.length≤1000)(GD:m.length<k):∀c i n,i+c=m.length→c<n→
  GG k n m.length i B.1 B.2.1 B.2.2.1 B.2.2.2 0 0 0 0 0 0 0 0 0 0 0 0 0 0 m = some (match oG k B m (m.drop i) with
   |some (p,q,C)=>.inr (true,p.1,p.2.1,p.2.2.1,p.2.2.2.1,p.2.2.2.2.1,p.2.2.2.2.2.1,p.2.2.2.2.2.2,q.1,q.2.1,q.2.2.1,q.2.2.2.1,q.2.2.2.2.1,q.2.2.2.2.2.1,q.2.2.2.2.2.2,C.1,C.2.1,C.2.2.1,C.2.2.2)
   |none=>.inl (0,0,0,0,0,0,0,0,0,0,0,0,0,0))
 |0,i,n,e,hn=>by
  obtain⟨n,rfl⟩:∃x,n=x+1:=⟨n-1,by omega⟩;have:i=m.length:=by omega
  subst this;show B5 k _ m.length m.length B.1 B.2.1 B.2.2.1 B.2.2.2 0 0 0 0 0 0 0 0 0 0 0 0 0 0 m=_;unfold B5;simp;rfl
 |c+1,i,n,e,hn=>by
  obtain⟨n,rfl⟩:∃x,n=x+1:=⟨n-1,by omega⟩;have hi:i<m.length:=by omega
  have ih:=qX0 hk h m hm GD c (i+1) n (by omega) (by omega);show B5 k _ m.length i B.1 B.2.1 B.2.2.1 B.2.2.2 0 0 0 0 0 0 0 0 0 0 0 0 0 0 m=_;unfold B5;have dZ:=yJw hk h m hm (m.getD i pd) m.length i m.length 0 k (by omega) GD;have e0:((0:Nat):Int)=0:=rfl;rw[e0,List.drop_zero] at dZ;simp only[zW,qM,aC,ag hi];rw[dZ];rw[yMt k B m hi];cases mi k B (m.getD i (0,(0,(0,(0,(0,(0,0))))))) m with
  |none=>
   simp[qD hi (by grind)];exact ih
  |some x=>rfl
def QY (x:Option (zG×zG×BT)):Int×Int×Int×Int×Int×Int×Int×Int×Int×Int×Int×Int×Int×Int×(List (Int×Int×Int))×EQ×AC×EQ×Bool:=match x with
 |some (p,q,C)=>(p.1,p.2.1,p.2.2.1,p.2.2.2.1,p.2.2.2.2.1,p.2.2.2.2.2.1,p.2.2.2.2.2.2,q.1,q.2.1,q.2.2.1,q.2.2.2.1,q.2.2.2.2.1,q.2.2.2.2.2.1,q.2.2.2.2.2.2,C.1,C.2.1,C.2.2.1,C.2.2.2,true)
 |none=>(0,0,0,0,0,0,0,0,0,0,0,0,0,0,[],[],[],[],false)
theorem vHt {k}(hk:100<k){B}(h:qL B){l}(bI:l.length<k)(hl:qN l)(hd:qI l) t:KW k B.1 B.2.1 B.2.2.1 B.2.2.2 l t=some (QY (jN k B l t)):=by
 unfold KW jN;rw[yPi bI hl hd];have BZ:=KS l t;unfold qN at hl;have:=qX0 hk h (vO l t) (by omega) (by omega) (vO l t).length 0 k (by omega) (by omega);have e:((0:Nat):Int)=0:=rfl;rw[e,List.drop_zero] at this;simp;rw[this];cases oG k B (vO l t) (vO l t) with
 |none=>rfl
 |some x=>rfl
theorem vRb {k}(hk:3≤k) t (l:List zG)(hl:l.length≤1000)(pM:l.length<k)(C:BT)(r:List zG)(hr:r.length≤900)(p q:zG):
  tc k k t l 2 0 C.1 C.2.1 C.2.2.1 C.2.2.2 r [p,q]=some (t,w4 l p q,C.1,C.2.1,C.2.2.1,C.2.2.2,r++[p,q]):=by
 obtain⟨n,rfl⟩:∃n,k=n+3:=⟨k-3,by omega⟩;have h1:=wu pM (show qN l from hl) p.1;have pt:(jB l p.1).length≤l.length:=by
  unfold jB fJ;cases hp:vE l p.1 with
  |none=>simp
  |some x=>exact List.Sublist.length_le (qa l x)
 have h2:=wu (k:=n+3) (l:=jB l p.1) (by omega) (show(jB l p.1).length≤1000 by omega) q.1;have e1:zR (r.length+1) 56=true:=lu (by omega);have e2:zR ((r++[p]).length+1) 56=true:=lu (by grind);show td (n+3) (tc (n+3) (n+2)) t l 2 0 C.1 C.2.1 C.2.2.1 C.2.2.2 r [p,q]=_;unfold td;have g0:[p,q].getD (Int.toNat 0) (0,(0,(0,(0,(0,(0,0))))))=p:=rfl;have b0:zC 0 [p,q].length=true:=rfl;have d0:decide ((0:Int)<2)=true:=rfl;have w0:zA (0+1)=1:=by decide
 rw[d0,b0,g0,h1];simp[e1];show td (n+3) (tc (n+3) (n+1)) t (jB l p.1) 2 1 C.1 C.2.1 C.2.2.1 C.2.2.2 (r++[p]) [p,q]=_;unfold td;have g1:[p,q].getD (Int.toNat 1) (0,(0,(0,(0,(0,(0,0))))))=q:=rfl;have b1:zC 1 [p,q].length=true:=rfl;have d1:decide ((1:Int)<2)=true:=rfl;have w1:zA (1+1)=2:=by decide
 rw[d1,b1,g1,h2];simp only[e2];show td (n+3) (tc (n+3) n) t (w4 l p q) 2 2 C.1 C.2.1 C.2.2.1 C.2.2.2 (r++[p]++[q]) [p,q]=_;unfold td;simp
theorem qY5 {k}(hk:100<k) t:∀n B (l r:List zG),qL B→qI l→l.length≤100→l.length<n→r.length+l.length≤900→
  ∃(C:BT) (m done:List zG),GH k n t l B.1 B.2.1 B.2.2.1 B.2.2.2 r=some (m,C.1,C.2.1,C.2.2.1,C.2.2.2,r++done)∧wR k t B l done C m∧qL C∧C.1.length=B.1.length∧List.Sublist m l
 |n+1,B,l,r,hb,hd,hl,hn,hr=>by
  have h1:=vHt hk hb (l:=l) (by omega) (by show l.length≤1000;omega) hd t;cases hx:jN k B l t with
  |none=>
   rw[hx] at h1;refine⟨B,l,[],?_,.stop hx,hb,rfl,by simp⟩;show B6 k _ t l B.1 B.2.1 B.2.2.1 B.2.2.2 r=_;unfold B6;rw[h1];simp only[ak,QY,fZ,av,List.append_nil]
  |some x=>
   obtain⟨p,q,C⟩:=x;obtain⟨hp,hq,mj,hg⟩:=B2 hx;obtain⟨pt,kZ⟩:=B3 hd hp hq mj;obtain⟨mP,cU⟩:=oF hk hb (by simp) hg;obtain⟨D,m,done,g1,g3,g4,g5,g6⟩:=qY5 hk t n C (w4 l p q) (r++[p,q]) mP (List.Pairwise.sublist kZ hd) (by omega) (by omega) (by grind);refine⟨D,m,p::q::done,?_,.step hx g3,g4,by grind,g6.trans kZ⟩;show B6 k _ t l B.1 B.2.1 B.2.2.1 B.2.2.2 r=_;unfold B6;rw[h1];have hL:=vRb (k:=k) (by omega) t l (by omega) (by omega) C r (by omega) p q;simp only[QY,ay];simp_all
theorem vQc {k}(hk:200≤k){B}(hb:qL B){l}(hd:qI l)(hl:l.length≤100) t:
  ∃(C:BT) (m done:List zG),KX k B.1 B.2.1 B.2.2.1 B.2.2.2 l t=some (C.1,C.2.1,C.2.2.1,C.2.2.2,m,done)∧wR k t B l done C m∧qL C∧C.1.length=B.1.length∧List.Sublist m l:=by
 obtain⟨C,m,done,h1,h3⟩:=qY5 (show 100<k by omega) t k B l [] hb hd hl (by omega) (by grind);refine⟨C,m,done,?_,h3⟩;unfold KX;simp_all
def wQ (l:List zG)(f:Int):Nat:=(l.filter (wD f)).length
def oH (l:List zG)(many:AC)(i:Nat):Bool:=
 (decide ((l.getD i pd).2.1≥0)&&decide ((l.getD i pd).2.1<(many.length:Int)))&&decide (((wQ (l.take i) (l.getD i pd).2.1:Nat):Int)<many.getD (l.getD i pd).2.1.toNat 0)
def kG (l:List zG)(many:AC):Nat→List zG
 |0=>[]
 |i+1=>kG l many i++(bif oH l many i then[l.getD i pd] else[])
def yX (l:List zG)(many:AC):List zG:=kG l many l.length
theorem yO0 l many:∀N,N≤l.length→List.Sublist (kG l many N) (l.take N)
 |0,_=>by simp[kG]
 |N+1,h=>by
  rw[←ga l N pd h];apply List.Sublist.append (yO0 l many N (by omega));grind
theorem tf l many:List.Sublist (yX l many) l:=by
 have:=yO0 l many l.length (by simp)
 rwa [List.take_length] at this
def qd (v w:AC):Prop:=v.length=w.length∧∀i,i<w.length→v.getD i 0≤w.getD i 0
def wS (B:BT)(l:List zG):AC:=pY B.1 B.2.1 B.2.2.1 B.2.2.2 l
def wX (s:AC)(m:AC):AC:=s.foldl (fun m i=>m.set i.toNat (m.getD i.toNat 0-1)) m
theorem qe:∀s m,(wX s m).length=m.length
 |[],_=>rfl
 |i::s,m=>by
  show(wX s (m.set i.toNat (m.getD i.toNat 0-1))).length=_;rw[qe s,List.length_set]
theorem qVb:∀(s:List Nat) m,s.Nodup→(∀i∈s,i<m.length)→∀j,(wX (s.map fun(x:Nat)=>(x:Int)) m).getD j 0=m.getD j 0-(if j∈s then 1 else 0)
 |[],m,_,_,j=>by simp[wX]
 |i::s,m,hs,hi,j=>by
  show(wX (s.map fun(x:Nat)=>(x:Int)) (m.set ((i:Int)).toNat (m.getD ((i:Int)).toNat 0-1))).getD j 0=_;rw[aC,qVb s _ (by grind) (by grind),jD];grind
def qf (B:BT)(l:List zG)(i:Nat):Bool:=fi B.1 B.2.1 B.2.2.1 B.2.2.2 l i
theorem qUn B l {m}(hm:m.length=B.1.length) j:(wX (wS B l) m).getD j 0=m.getD j 0-(if j<B.1.length∧qf B l j=true then 1 else 0):=by
 have:=qVb ((List.range B.1.length).filter fun i=>qf B l i) m (List.Nodup.sublist List.filter_sublist (by grind)) (by grind) j;unfold wS pY;rw[show(fun i=>fi B.1 B.2.1 B.2.2.1 B.2.2.2 l i)=fun i=>qf B l i from rfl,this];simp
theorem vEx {B l}:wS B l=[]↔∀j,j<B.1.length→qf B l j=false:=by
 unfold wS pY;rw[List.map_eq_nil_iff,List.filter_eq_nil_iff];constructor
 ·intro h j hj;have:=h j (by grind)
  simpa[qf] using this
 ·intro h i hi;have:=h i (by grind)
  simpa[qf] using this
theorem yGk {l many p}:∀{N},p∈kG l many N→∃i,i<N∧l.getD i pd=p∧oH l many i=true
 |N+1,h=>by
  unfold kG at h;rw[List.mem_append] at h;rcases h with h|h
  ·obtain⟨i,h1,h2⟩:=yGk h;grind
  grind
theorem yZl {B l}(hl:∀q∈l,qY B.1.length q){m j}(h:qf B (yX l m) j=true):1≤m.getD j 0:=by
 unfold qf fi at h;rw[bJ,Bool.not_eq_true'] at h;have hn:=qUl (n:=B.1.length) (l:=yX l m) (fun q hq=>hl q ((tf l m).subset hq)) j;rw[h.1] at hn;obtain⟨x,hx,he⟩:=Kv.1 hn;obtain⟨i,h1,h2,h3⟩:=yGk (eO (d:=pd) hx);unfold oH at h3;have Kn:(l.getD i pd)=(yX l m).getD x pd:=h2;grind
inductive iA (B:BT) (l:List zG):AC→AC→Nat→Prop
 |stop {m:AC} (h:wS B (yX l m)=[]):iA B l m m 0
 |step {m f:AC} {n:Nat} (h:wS B (yX l m)≠[]) (h':iA B l (wX (wS B (yX l m)) m) f n):iA B l m f (n+1)
theorem yYz {B l m}(hm:m.length=B.1.length):qd (wX (wS B l) m) m:=by
 refine⟨qe _ _,fun i hi=>?_⟩;rw[qUn B l hm];omega
theorem qd.trans {u v w}(h:qd u v)(h':qd v w):qd u w:=⟨h.1.trans h'.1,fun i hi=>Int.le_trans (h.2 i (by have:=h'.1;omega)) (h'.2 i hi)⟩
theorem qd.refl v:qd v v:=⟨rfl,by simp⟩
theorem iA.le {B l m f n}(h:iA B l m f n)(hm:m.length=B.1.length):qd f m:=by
 induction h with
 |stop _=>exact qd.refl _
 |step _ _ ih=>exact(ih ((qe _ _).trans hm)).trans (yYz hm)
theorem iA.final {B l m f n}(h:iA B l m f n):wS B (yX l f)=[]:=by
 induction h with
 |stop h=>exact h
 |step _ _ ih=>exact ih
def mm (m:AC):Prop:=∀i,0≤m.getD i 0
theorem KY {B l}(hl:∀q∈l,qY B.1.length q){m}(hm:m.length=B.1.length)(h0:mm m):mm (wX (wS B (yX l m)) m):=by
 intro i;rw[qUn B _ hm];have:=h0 i;split
 ·rename_i c;have:=yZl hl c.2;omega
 ·omega
theorem iA.nonneg {B l}(hl:∀q∈l,qY B.1.length q){m f n}(h:iA B l m f n)(hm:m.length=B.1.length)(h0:mm m):mm f:=by
 induction h with
 |stop _=>exact h0
 |step _ _ ih=>exact ih ((qe _ _).trans hm) (KY hl hm h0)
def kH (m:AC):Int:=zM (fun x=>x) m
theorem yMe:∀m i x,i<m.length→kH (m.set i x)=kH m-m.getD i 0+x
 |y::m,0,x,_=>by
  show x+kH m=y+kH m-y+x;omega
 |y::m,i+1,x,h=>by
  show y+kH (m.set i x)=y+kH m-m.getD i 0+x;rw[yMe m i x (by simp_all)];omega
theorem yHq:∀s m,(∀i∈s,0≤i∧i<(m.length:Int))→kH (wX s m)=kH m-s.length
 |[],m,_=>by simp[wX]
 |i::s,m,h=>by
  have hi:=h i (by simp);show kH (wX s (m.set i.toNat (m.getD i.toNat 0-1)))=_;rw[yHq s _ (by grind),yMe _ _ _ (by omega)];grind
theorem QZ {B l}:∀i∈wS B l,0≤i∧i<(B.1.length:Int):=by
 intro i hi;obtain⟨x,hx,rfl⟩:=List.mem_map.1 hi;simp_all
theorem yPh:∀{m},mm m→0≤kH m
 |[],_=>Int.le_refl 0
 |x::m,h=>by
  have h1:0≤x:=h 0;have h2:=yPh (m:=m) (fun i=>h (i+1));show 0≤x+kH m;omega
theorem yFq {B l}(hl:∀q∈l,qY B.1.length q):∀(N:Nat) m,m.length=B.1.length→mm m→kH m≤N→∃f n,iA B l m f n∧n≤N
 |N,m,hm,h0,hN=>by
  by_cases c:wS B (yX l m)=[]
  ·exact⟨m,0,.stop c,by simp⟩
  ·have ht:=yHq (wS B (yX l m)) m (by rw[hm];exact QZ);have hp:0<(wS B (yX l m)).length:=by grind
   have h1:=KY hl hm h0;have h2:=yPh h1;obtain⟨N,rfl⟩:∃x,N=x+1:=⟨N-1,by omega⟩;obtain⟨f,n,h3,h4⟩:=yFq hl N _ ((qe _ _).trans hm) h1 (by omega);exact⟨f,n+1,.step c h3,by omega⟩
theorem Q0 l many:∀N,(kG l many N).length≤N
 |0=>Nat.le_refl _
 |N+1=>by
  unfold kG;have:=Q0 l many N;grind
theorem vLa (l:List zG) i (hi:i<l.length) f:wQ (l.take (i+1)) f=wQ (l.take i) f+(if(l.getD i pd).2.1=f then 1 else 0):=by
 unfold wQ;rw[wm _ _ _ pd hi,List.length_append];unfold wD;grind
def fk (l:List zG)(n:Nat):AC:=(List.range n).map fun(i:Nat)=>((wQ l i:Nat):Int)
theorem yEj l i:fk l (i+1)=fk l i++[((wQ l i:Nat):Int)]:=by
 unfold fk;rw[List.range_succ,List.map_append];rfl
theorem tg l n:(fk l n).length=n:=by
 unfold fk;simp
theorem GI:∀s m i,m.getD i 0-s.length≤(wX s m).getD i 0∧(wX s m).getD i 0≤m.getD i 0
 |[],m,i=>by simp[wX]
 |x::s,m,i=>by
  have h:=GI s (m.set x.toNat (m.getD x.toNat 0-1)) i;rw[jD] at h;have e:wX (x::s) m=wX s (m.set x.toNat (m.getD x.toNat 0-1)):=rfl;rw[e,List.length_cons];by_cases c:x.toNat=i∧x.toNat<m.length
  ·grind
  omega
theorem yLj (s m:AC) i (hi:i<s.length):wX (s.take (i+1)) m=(wX (s.take i) m).set (s.getD i 0).toNat ((wX (s.take i) m).getD (s.getD i 0).toNat 0-1):=by
 unfold wX;rw[←ga s i 0 hi,List.foldl_append];rfl
theorem yIa g:∀n,zM (fun x=>x) ((List.range n).map g)=qE g n
 |0=>rfl
 |n+1=>by
  rw[List.range_succ,List.map_append,iy,yIa g n];show qE g n+(g n+0)=qE g n+g n;omega
theorem vBv l f:((wQ l f:Nat):Int)=zM (fun p:zG=>if p.2.1=f then 1 else 0) l:=by
 induction l with
 |nil=>rfl
 |cons p l ih=>
  unfold wQ wD at*
  show _=(if p.2.1=f then(1:Int) else 0)+zM _ l;grind
theorem vDh l n:kH (fk l n)≤l.length:=by
 unfold kH fk;rw[yIa (fun i:Nat=>((wQ l i:Nat):Int)) n,ou (h:=fun j=>zM (fun p:zG=>if p.2.1=(j:Int) then 1 else 0) l) (fun j _=>vBv l j),JU];have := (vy (A := 1) (l := l) (g := fun p : zG => qE (fun j => if p.2.1 = (j : Int) then 1 else 0) n) (fun p _=>by
  by_cases c:0≤p.2.1
  ·obtain⟨f,hf⟩:∃f:Nat,p.2.1=f:=⟨p.2.1.toNat,by omega⟩;have e:qE (fun j=>if p.2.1=(j:Int) then(1:Int) else 0) n=qE (fun j=>if j=f then 1 else 0) n:=by grind
   rw[e,vz];omega
  ·have e:qE (fun j=>if p.2.1=(j:Int) then(1:Int) else 0) n=qE (fun _=>0) n:=by grind
   rw[e,P2];omega)).2
 omega
theorem qZ9 l n i:(fk l n).getD i 0=if i<n then((wQ l i:Nat):Int) else 0:=by
 unfold fk;grind
theorem yT8 l f:wQ l f≤l.length:=List.length_filter_le _ _
theorem KZ {l}(hl:l.length≤1000) n:mm (fk l n)∧∀i,(fk l n).getD i 0≤1000:=by
 refine⟨fun i=>?_,fun i=>?_⟩
 ·rw[qZ9];omega
 ·rw[qZ9];have:=yT8 l i;omega
theorem GJ {B:BT}{l}(hl:∀q∈l,qY B.1.length q)(bT:l.length≤64) m:vK B.1.length (yX l m):=
 ⟨fun p hp=>hl p ((tf l m).subset hp),by have:=(tf l m).length_le;omega⟩
def yQ (l:List zG)(t:Int):List zG:=l.filter (gK t)
theorem GK {n l t}(h:∀q∈l,qY n q):∀q∈yQ l t,qY n q:=fun q hq=>h q (List.mem_filter.1 hq).1
theorem th l t:(yQ l t).length≤l.length:=List.length_filter_le _ _
theorem Q1 {B}(hb:qL B){l}(hl:∀q∈l,qY B.1.length q)(bT:l.length≤64) t:
  ∃f n,iA B (yQ l t) (fk (yQ l t) B.1.length) f n∧n≤(yQ l t).length:=by
 have h1:=KZ (l:=yQ l t) (by have:=th l t;omega) B.1.length;have h2:=vDh (yQ l t) B.1.length;exact yFq (GK hl) (yQ l t).length _ (tg _ _) h1.1 (by omega)
def mn (l:List zG)(hs:List zG):List zG:=hs.foldl (fun l p=>jB l p.1) l
theorem yZs l id:(jB l id).length≤l.length∧List.Sublist (jB l id) l:=by
 unfold jB fJ;cases vE l id with
 |none=>simp
 |some x=>exact⟨(qa l x).length_le,qa l x⟩
theorem K0:∀hs l,(mn l hs).length≤l.length∧List.Sublist (mn l hs) l
 |[],l=>⟨Nat.le_refl _,List.Sublist.refl _⟩
 |p::hs,l=>by
  obtain⟨h1,h2⟩:=K0 hs (jB l p.1);obtain⟨h3,h4⟩:=yZs l p.1;exact⟨Nat.le_trans h1 h3,h2.trans h4⟩
theorem yK5 (l hs:List zG) i (hi:i<hs.length):mn l (hs.take (i+1))=jB (mn l (hs.take i)) (hs.getD i pd).1:=by
 unfold mn;rw[←ga hs i pd hi,List.foldl_append];rfl
def B7 (B:BT)(l hs:List zG)(r:List qQ×EQ×AC×EQ×Int):(List (Int×Int×Int))×EQ×AC×EQ×(List zG)×(List zG):=
 bif !(decide (r.2.2.2.2=0)) then(B.1,B.2.1,B.2.2.1,B.2.2.2,l,[]) else(r.1,r.2.1,r.2.2.1,r.2.2.2.1,mn l hs,hs)
theorem Q2 {k:Nat}{l:List zG}(hk:l.length<k)(hl:qN l){many:AC}(h0:mm many)(hm:∀i,many.getD i 0≤1000)(BZ:many.length≤1000):B8 k l many=some (yX l many):=by
 unfold qN at hl;unfold B8 Q3 Q4;rw[qT (by omega) (by omega)];simp only[av,ak];obtain ⟨s', h1, h2, h3, h4⟩ := yZ (L := fun n i (s : AC × List zG) => B9 k n l l.length i s.1 s.2) (N := l.length) (fun s => s) (fun i s => s.1.length = many.length ∧ (∀ f : Nat, f < many.length → s.1.getD f 0 = if many.getD f 0 ≤ (wQ (l.take i) f : Nat) then 0 else many.getD f 0 - (wQ (l.take i) f : Nat)) ∧ s.2 = kG l many i) (fun n s _=>by
  show Ca k _ l l.length l.length s.1 s.2=_;unfold Ca;simp only [qM, ai (Nat.lt_irrefl _), ay]) (fun n i s hi hs=>by
  obtain⟨s1,s2,s3⟩:=hs;have dP:s.2.length≤i:=by rw[s3];exact Q0 l many i
  show∃s',Ca k _ l l.length i s.1 s.2=_∧_;unfold Ca Q5;simp only[zW,qD hi (show l.length<9223372036854775808 by omega),qM,aC,ag hi,av,lu (show s.2.length≤1000 by omega)];have lh:=fun f=>vLa l i hi f
  have E1:∀f:Nat,f<many.length→(l.getD i pd).2.1≠(f:Int)→(if many.getD f 0≤(wQ (l.take (i+1)) f:Nat) then(0:Int) else many.getD f 0-(wQ (l.take (i+1)) f:Nat))=if many.getD f 0≤(wQ (l.take i) f:Nat) then 0 else many.getD f 0-(wQ (l.take i) f:Nat):=by
   intro f hf bj;rw[lh f,if_neg bj,Nat.add_zero]
  have skip:oH l many i=false→(∀f:Nat,f<many.length→(l.getD i pd).2.1=(f:Int)→many.getD f 0≤(wQ (l.take i) f:Nat))→(s.1.length=many.length∧(∀f:Nat,f<many.length→s.1.getD f 0=if many.getD f 0≤(wQ (l.take (i+1)) f:Nat) then 0 else many.getD f 0-(wQ (l.take (i+1)) f:Nat))∧s.2=kG l many (i+1)):=by
   intro hh hz;refine⟨s1,fun f hf=>?_,?_⟩
   ·by_cases c:(l.getD i pd).2.1=(f:Int)
    ·have:=hz f hf c;rw[s2 f hf,if_pos this,lh f,if_pos c,if_pos (by omega)]
    ·rw[E1 f hf c,s2 f hf]
   ·show _=kG l many i++_;rw[hh,s3];simp
  cases e1:decide ((l.getD i pd).2.1<0) with
  |true=>
   refine⟨s,rfl,skip ?_ ?_⟩
   ·unfold oH;rw[bO] at e1;rw[ai (show¬(l.getD i pd).2.1≥0 by omega)];rfl
   ·intro f hf c;rw[bO] at e1;omega
  |false=>
   cases e2:decide ((l.getD i pd).2.1≥((s.1.length:Nat):Int)) with
   |true=>
    refine⟨s,rfl,skip ?_ ?_⟩
    ·unfold oH;rw[bO] at e2;rw[ai (show¬(l.getD i pd).2.1<(many.length:Int) by omega),Bool.and_false];rfl
    ·intro f hf c;rw[bO] at e2;omega
   |false=>
    rw[decide_eq_false_iff_not] at e1 e2;obtain⟨f,hf⟩:∃f:Nat,(l.getD i pd).2.1=f:=⟨(l.getD i pd).2.1.toNat,by omega⟩;have I9:f<many.length:=by omega
    have dG:(l.getD i (0,(0,(0,(0,(0,(0,0))))))).2.1=f:=hf;simp only[ay,dG,zW,aC,s1,ag I9,av];have uN:oH l many i=decide (((wQ (l.take i) f:Nat):Int)<many.getD f 0):=by
     unfold oH;rw[hf,ag (show(f:Int)≥0 by omega),ag (show(f:Int)<(many.length:Int) by omega),aC];rfl
    have fT:=s2 f I9;cases e3:decide (s.1.getD f 0<1) with
    |true=>
     rw[bO,fT] at e3;have hle:many.getD f 0≤(wQ (l.take i) f:Nat):=by
      by_cases c:many.getD f 0≤(wQ (l.take i) f:Nat)
      ·exact c
      ·rw[if_neg c] at e3;omega
     refine⟨s,rfl,skip (by rw[uN];exact ai (by omega)) ?_⟩;intro g hg c;have:g=f:=by omega
     subst this;exact hle
    |false=>
     rw[decide_eq_false_iff_not] at e3;have hgt:¬many.getD f 0≤(wQ (l.take i) f:Nat):=by
      intro c;rw[fT,if_pos c] at e3;omega
     rw[if_neg hgt] at fT;have sD:=hm f;have hw:zA (s.1.getD f 0-1)=s.1.getD f 0-1:=zN (by omega) (by omega);refine⟨(s.1.set f (s.1.getD f 0-1),s.2++[l.getD i pd]),?_,?_,?_,?_⟩
     ·simp only[ay,ak,av,hw]
     ·rw[List.length_set];exact s1
     ·intro g hg;rw[jD];by_cases c:f=g
      ·subst c;rw[if_pos ⟨rfl,by omega⟩,lh f,if_pos hf,fT];by_cases d:many.getD f 0≤((wQ (l.take i) f+1:Nat):Int)
       ·rw[if_pos d];omega
       ·rw[if_neg d];omega
      ·rw[if_neg (fun e=>c e.1),E1 g hg (by omega)];exact s2 g hg
     ·show s.2++[l.getD i pd]=kG l many i++_;rw[uN,ag (by omega),s3];rfl) (s:=(many,[])) hk ⟨rfl,fun f hf=>by
   have:(wQ (l.take 0) f:Nat)=0:=rfl;have h0f:=h0 f;rw[this];by_cases c:many.getD f 0≤((0:Nat):Int)
   ·rw[if_pos c];show many.getD f 0=0;omega
   ·rw[if_neg c];show many.getD f 0=_;omega,rfl⟩
 have eL:B9 k k l l.length 0 many []=some s':=h1;rw[eL];simp only[ak,h4];rfl
theorem yMu {k l}(hk:l.length<k)(hl:qN l) f:GL k l f=some (l.filter (wD f)):=by
 unfold GL Q6;have := Gc pd (L := fun n i s => GM k n l l.length i f s) (wD f) id (fun n s=>by
  show Cb k _ l l.length l.length f s=_;unfold Cb;simp) (fun n i s hi hs=>by
  show Cb k _ l l.length i f s=_;unfold Cb Q7;unfold qN at hl;simp[zW,qD hi (by grind),lu (show s.length≤1000 by omega)];unfold wD;grind) hk
 simp_all
theorem yYy {k}{B:BT}{l}(hk:l.length<k)(hl:qN l)(hn:B.1.length<k)(hn':B.1.length≤1000) s7:
  w5 k k s7 B.1.length 0 B.1 B.2.1 B.2.2.1 B.2.2.2 [] l=some (s7,B.1,B.2.1,B.2.2.1,B.2.2.2,fk l B.1.length,l):=by
 obtain ⟨s', h1, h2⟩ := yZ (L := fun n i (s : AC) => w5 k n s7 B.1.length i B.1 B.2.1 B.2.2.1 B.2.2.2 s l) (N := B.1.length) (fun s => (s7, B.1, B.2.1, B.2.2.1, B.2.2.2, s, l)) (fun i s => s = fk l i) (fun n s _=>by
  show Cc k _ s7 B.1.length B.1.length B.1 B.2.1 B.2.2.1 B.2.2.2 s l=_;unfold Cc;simp) (fun n i s hi hs=>by
  refine⟨_,?_,(yEj l i).symm⟩;show Cc k _ s7 B.1.length i B.1 B.2.1 B.2.2.1 B.2.2.2 s l=_;unfold Cc;have hr:zR (s.length+1) 8=true:=by rw[hs,tg];exact qT (by omega) (by omega)
  simp[ag hi,yMu hk hl,hr,qD hi (by grind)];rw[hs];rfl) (s:=[]) hn rfl
 simp_all
theorem vSf {k}{B:BT}{l:List zG}{s m}(hk:s.length<k)(hs:s.length≤1000)(dZ:∀x∈s,0≤x∧x<(m.length:Int))(h0:mm m)(hm:∀i,m.getD i 0≤1000) s7:
  Cd k k s7 s.length 0 B.1 B.2.1 B.2.2.1 B.2.2.2 m l s=some (s7,B.1,B.2.1,B.2.2.1,B.2.2.2,wX s m,l):=by
 obtain ⟨s', h1, h2⟩ := yZ (L := fun n i (r : AC) => Cd k n s7 s.length i B.1 B.2.1 B.2.2.1 B.2.2.2 r l s) (N := s.length) (fun r => (s7, B.1, B.2.1, B.2.2.1, B.2.2.2, r, l)) (fun i r => r = wX (s.take i) m) (fun n r _=>by
  show Ce k _ s7 s.length s.length B.1 B.2.1 B.2.2.1 B.2.2.2 r l s=_;unfold Ce;simp) (fun n i r hi hr=>by
  refine⟨_,?_,(yLj s m i hi).symm⟩;show Ce k _ s7 s.length i B.1 B.2.1 B.2.2.1 B.2.2.2 r l s=_;unfold Ce;obtain⟨b1,b2⟩:=dZ _ (eO (d:=0) hi);have rZ:r.length=m.length:=by rw[hr,qe]
  have hb:zC (s.getD i 0) r.length=true:=vx b1 (by omega);have PY:=GI (s.take i) m (s.getD i 0).toNat;have EU:=h0 (s.getD i 0).toNat;have sD:=hm (s.getD i 0).toNat;have bd:(s.take i).length≤s.length:=by grind
  have hw:zA (r.getD (s.getD i 0).toNat 0-1)=r.getD (s.getD i 0).toNat 0-1:=by
   rw[hr];exact zN (by omega) (by omega)
  simp only[qM,zW,aC,ag hi,av,hb,hw,qD hi (by grind)];rw[hr]) (s:=m) hk rfl
 simp_all
theorem yU1 {k}(hk:100<k){B}(hb:qL B){l}(hl:∀q∈l,qY B.1.length q)(bT:l.length≤64){m f n}(h:iA B l m f n):
  ∀N (s7:Int),m.length=B.1.length→mm m→(∀i,m.getD i 0≤1000)→n<N→0≤s7→s7+n<1000000→
  GN k N s7 B.1 B.2.1 B.2.2.1 B.2.2.2 m l=some (s7+n+1,f):=by
 induction h with
 |@stop m h=>
  intro N s7 hm h0 h1 hn hs uR;obtain⟨N,rfl⟩:∃x,N=x+1:=⟨N-1,by omega⟩;have eQ:=hb.n6;show Cf k _ s7 B.1 B.2.1 B.2.2.1 B.2.2.2 m l=_;unfold Cf;have hS:=Qt hk hb (GJ hl bT m);have lR:wj k B.1 B.2.1 B.2.2.1 B.2.2.2 (yX l m)=some (wS B (yX l m)):=hS;rw[Q2 (by omega) (show qN l by show l.length≤1000;omega) h0 h1 (by omega)];simp[ak];rw[lR,h];have w:zA (s7+1)=s7+1:=zN (by omega) (by omega);rw[w];simp
 |@step m f n h h' ih=>
  intro N s7 hm h0 h1 hn hs uR;obtain⟨N,rfl⟩:∃x,N=x+1:=⟨N-1,by omega⟩;have eQ:=hb.n6;show Cf k _ s7 B.1 B.2.1 B.2.2.1 B.2.2.2 m l=_;unfold Cf;have hS:=Qt hk hb (GJ hl bT m);have lR:wj k B.1 B.2.1 B.2.2.1 B.2.2.2 (yX l m)=some (wS B (yX l m)):=hS;rw[Q2 (by omega) (show qN l by show l.length≤1000;omega) h0 h1 (by omega)];simp only[ak];rw[lR];simp only[ak];have w:zA (s7+1)=s7+1:=zN (by omega) (by omega);have bj : decide ((((wS B (yX l m)).length : Nat) : Int) = 0) = false := ai (by
   simp_all)
  have dP:(wS B (yX l m)).length≤B.1.length:=by
   unfold wS pY;grind
  rw[bj,w];rw[vSf (by omega) (by omega) (by rw[hm];exact QZ) h0 h1];simp;have Q8:=KY hl hm h0;have:=ih N (s7+1) ((qe _ _).trans hm) Q8 (fun i=>by have:=(GI (wS B (yX l m)) m i).2;have:=h1 i;omega) (by omega) (by omega) (by omega);rw[this]
  congr 2
  omega
theorem yUc {k}(hk:100<k){B}(hb:qL B){l}(hl:∀q∈l,qY B.1.length q)(bT:l.length≤64) t {f n}(hn:n≤l.length)(h:iA B (yQ l t) (fk (yQ l t) B.1.length) f n):
  K1 k B.1 B.2.1 B.2.2.1 B.2.2.2 l t=some (f,((n+1:Nat):Int)):=by
 have eQ:=hb.n6;have hr:=th l t;have h1:=KZ (l:=yQ l t) (by omega) B.1.length;unfold K1;rw[Qw (by omega) (by show l.length≤1000;omega)];simp;have e:w5 k k 0 B.1.length 0 B.1 B.2.1 B.2.2.1 B.2.2.2 [] (l.filter (gK t))=_:=yYy (k:=k) (B:=B) (l:=yQ l t) (by omega) (by show(yQ l t).length≤1000;omega) (by omega) (by omega) 0;rw[e];simp;rw[yU1 hk hb (GK hl) (by omega) h k 0 (tg _ _) h1.1 h1.2 (by omega) (by omega) (by omega)];simp
theorem vC3 {k}{C:BT}{l hs:List zG}(hl:l.length<k)(dt:l.length≤1000)(hk:hs.length<k)(hh:hs.length≤1000):
  w6 k k l hs.length 0 C.1 C.2.1 C.2.2.1 C.2.2.2 hs=some (mn l hs,C.1,C.2.1,C.2.2.1,C.2.2.2,hs):=by
 obtain ⟨s', h1, h2⟩ := yZ (L := fun n i (s : List zG) => w6 k n s hs.length i C.1 C.2.1 C.2.2.1 C.2.2.2 hs) (N := hs.length) (fun s => (s, C.1, C.2.1, C.2.2.1, C.2.2.2, hs)) (fun i s => s = mn l (hs.take i)) (fun n s _=>by
  show Cg k _ s hs.length hs.length C.1 C.2.1 C.2.2.1 C.2.2.2 hs=_;unfold Cg;simp) (fun n i s hi hr=>by
  refine⟨_,?_,(yK5 l hs i hi).symm⟩;show Cg k _ s hs.length i C.1 C.2.1 C.2.2.1 C.2.2.2 hs=_;unfold Cg;have dP:=(K0 (hs.take i) l).1;rw[←hr] at dP⊢;simp[zW,ag hi,wu (show s.length<k by omega) (show qN s by show s.length≤1000;omega),qD hi (by grind)];rfl) (s:=l) hk rfl
 simp_all
theorem Q9 {k:Nat}(hk:100<k){B:BT}(hb:qL B){l:List zG}(hl:∀q∈l,qY B.1.length q)(bT:l.length≤64)(t:Int){f:AC}{n:Nat}(hn:n≤l.length)(h:iA B (yQ l t) (fk (yQ l t) B.1.length) f n)
  {r:List qQ×EQ×AC×EQ×Int} (hr:mZ k B.1 B.2.1 B.2.2.1 B.2.2.2 (yX (yQ l t) f)=some r):w7 k B.1 B.2.1 B.2.2.1 B.2.2.2 l t=some (B7 B l (yX (yQ l t) f) r):=by
 have eQ:=hb.n6;have rZ:=th l t;have h1:=KZ (l:=yQ l t) (by omega) B.1.length;have hle:=h.le (tg _ _);have h0:=h.nonneg (GK hl) (tg _ _) h1.1;have I9:f.length=B.1.length:=hle.1.trans (tg _ _);have hf:∀i,f.getD i 0≤1000:=fun i=>by
  by_cases c:i<(fk (yQ l t) B.1.length).length
  ·have:=hle.2 i c;have:=h1.2 i;omega
  ·rw[List.getD_eq_getElem?_getD,List.getElem?_eq_none (by have:=hle.1;omega)];show(0:Int)≤1000;omega
 have K2:=(tf (yQ l t) f).length_le;unfold w7;rw[yUc hk hb hl bT t hn h,Qw (by omega) (by show l.length≤1000;omega)];simp only[ak];have e:B8 k (l.filter (gK t)) f=_:=Q2 (k:=k) (l:=yQ l t) (by omega) (by show(yQ l t).length≤1000;omega) h0 hf (by omega);rw[e];simp only[ak];rw[hr];simp only[ak];unfold B7;cases decide (r.2.2.2.2=0) with
 |false=>rfl
 |true=>
  simp only[bG,ay];have e2:w6 k k l ((List.length (yX (yQ l t) f):Nat):Int) 0 r.1 r.2.1 r.2.2.1 r.2.2.2.1 (yX (yQ l t) f)=_:=vC3 (C:=(r.1,r.2.1,r.2.2.1,r.2.2.2.1)) (by omega) (by omega) (by omega) (by omega);rw[e2];rfl
theorem vQ3 {l x}(hx:x<l.length):List.Perm (l.getD x pd::qU l x) l:=by
 unfold qU;have h:List.Perm (l.getD x pd::(l.take x++l.drop (x+1))) (l.take x++l.getD x pd::l.drop (x+1)):=by grind
 simp_all
theorem K3 {l}(hd:qI l){p}(hp:p∈l):List.Perm (p::jB l p.1) l:=by
 obtain⟨x,hx⟩:=KD hp;have h:=iz hx;have e:l.getD x pd=p:=hd.eq_of (by grind) hp h.2;unfold jB fJ;have:=vQ3 h.1;simp_all
theorem fj.perm {k t B C l done m}(h:fj k t B l done C m)(hd:qI l):List.Perm (done++m) l:=by
 induction h with
 |stop _=>rfl
 |step h _ ih=>
  have hp:=BX (wz h).1;exact((ih (List.Pairwise.sublist (qc hp).2 hd)).cons _).trans (K3 hd hp)
theorem wR.perm {k t B C l done m}(h:wR k t B l done C m)(hd:qI l):List.Perm (done++m) l:=by
 induction h with
 |stop _=>rfl
 |step h _ ih=>
  obtain⟨hp,hq,mj,_⟩:=B2 h;obtain⟨h1,h2⟩:=B3 hd hp hq mj;have si:qI (jB _ _):=List.Pairwise.sublist (qc hp).2 hd;have mg:=QX hp hq (yL6 hd hp hq mj);exact(((ih (List.Pairwise.sublist h2 hd)).cons _).cons _).trans (((K3 si mg).cons _).trans (K3 hd hp))
theorem fj.final {k t B C l done m}(h:fj k t B l done C m):jT k C (vO m t)=none:=by
 induction h with
 |stop h=>exact h
 |step _ _ ih=>exact ih
theorem wR.final {k t B C l done m}(h:wR k t B l done C m):jN k C m t=none:=by
 induction h with
 |stop h=>exact h
 |step _ _ ih=>exact ih
theorem qI.perm {l m}(h:qI l)(hp:List.Perm m l):qI m:=(List.Perm.pairwise_iff (R:=fun p q:zG=>p.1≠q.1) (by grind) hp.symm).1 h
inductive j7 (k:Nat) (t:Int):BT→List zG→List zG→BT→List zG→Prop
 |stop {B C:BT} {l m d:List zG} (h1:fj k t B l d C m) (h2:jN k C m t=none):j7 k t B l d C m
 |step {B C D E:BT} {l m n o d e f:List zG} (h1:fj k t B l d C m) (h2:wR k t C m e D n) (ne:e≠[]) (h':j7 k t D n f E o):j7 k t B l (d++e++f) E o
theorem j7.perm {k t B C l done m}(h:j7 k t B l done C m)(hd:qI l):List.Perm (done++m) l:=by
 induction h with
 |stop h1 _=>exact h1.perm hd
 |@step B C D E l m n o d e f h1 h2 ne h' ih=>
  have p1:=h1.perm hd;have hd1:=hd.perm p1;have hm:qI m:=(List.pairwise_append.1 hd1).2.1;have p2:=h2.perm hm;have hn:qI n:=(List.pairwise_append.1 (hm.perm p2)).2.1;grind
theorem j7.final {k t B C l done m}(h:j7 k t B l done C m):jT k C (vO m t)=none∧jN k C m t=none:=by
 induction h with
 |stop h1 h2=>exact⟨h1.final,h2⟩
 |step _ _ _ _ ih=>exact ih
theorem fj.none {k t B C l done m}(h:fj k t B l done C m)(hn:jT k B (vO l t)=none):done=[]∧C=B∧m=l:=by
 cases h with
 |stop _=>simp
 |step h _=>simp_all
theorem wR.none {k t B C l done m}(h:wR k t B l done C m)(hn:jN k B l t=none):done=[]∧C=B∧m=l:=by
 cases h with
 |stop _=>simp
 |step h _=>simp_all
theorem wR.nil {k t B C l m}(h:wR k t B l [] C m):jN k B l t=Option.none∧C=B∧m=l:=by
 cases h with
 |stop h=>simp_all
theorem j7.none {k t B C l done m}(h:j7 k t B l done C m)(h1:jT k B (vO l t)=Option.none)(h2:jN k B l t=Option.none):done=[]∧C=B∧m=l:=by
 cases h with
 |stop g1 _=>exact g1.none h1
 |step g1 g2 ne _=>
  obtain⟨rfl,rfl,rfl⟩:=g1.none h1;obtain⟨rfl,_,_⟩:=g2.none h2;simp_all
theorem yR3 {k:Nat}(hk:200≤k)(t:Int):∀(n:Nat) (B:BT) (l r:List zG),qL B→qI l→l.length≤100→l.length<n→r.length+l.length≤900→
  ∃(C:BT) (m done:List zG),GO k n t l B.1 B.2.1 B.2.2.1 B.2.2.2 r=some (m,C.1,C.2.1,C.2.2.1,C.2.2.2,r++done)∧j7 k t B l done C m∧qL C∧C.1.length=B.1.length∧List.Sublist m l
 |0,_,_,_,_,_,_,h,_=>absurd h (Nat.not_lt_zero _)
 |n+1,B,l,r,hb,hd,hl,hn,hr=>by
  obtain⟨C,m,d,f1,f2,f3,f4,f5⟩:=vQ1 hk hb hd hl t;have p1:=f2.perm hd;have l1:=p1.length_eq;rw[List.length_append] at l1;have hm:qI m:=List.Pairwise.sublist f5 hd;obtain⟨D,o,e,g1,g2,g3,g4,g5⟩:=vQc hk f3 hm (by omega) t;have p2:=g2.perm hm;have l2:=p2.length_eq;rw[List.length_append] at l2;have r1:zR (r.length+d.length) 56=true:=qT (by omega) (by omega);have r2:zR ((r++d).length+e.length) 56=true:=qT (by rw[List.length_append];omega) (by grind);show∃C' m' aaf,K4 k _ t l B.1 B.2.1 B.2.2.1 B.2.2.2 r=_∧_;unfold K4;rw[f1];simp only[ak];rw[g1];simp only[ak,r1,r2,av];cases e with
  |nil=>
   obtain⟨h1,h2,h3⟩:=g2.nil;subst h2;subst h3;refine⟨D,o,d,?_,.stop f2 h1,f3,f4,f5⟩;simp
  |cons p e=>
   have bd:o.length+(e.length+1)=m.length:=by simp at l2;omega
   obtain⟨E,q,f,k1,k2,k3,k4,k5⟩:=yR3 hk t n D o (r++d++(p::e)) g3 (List.Pairwise.sublist g5 hm) (by omega) (by omega) (by simp;omega);refine⟨E,q,d++(p::e)++f,?_,.step f2 g2 (by simp) k2,k3,k4.trans (g4.trans f4),k5.trans (g5.trans f5)⟩;grind
theorem Ch {k}(hk:200≤k){B}(hb:qL B){l}(hd:qI l)(hl:l.length≤100) t:
  ∃(C:BT) (m done:List zG),GP k B.1 B.2.1 B.2.2.1 B.2.2.2 l t=some (C.1,C.2.1,C.2.2.1,C.2.2.2,m,done)∧j7 k t B l done C m∧qL C∧C.1.length=B.1.length∧List.Sublist m l:=by
 obtain⟨C,m,done,h1,h3⟩:=yR3 hk t k B l [] hb hd hl (by omega) (by grind);refine⟨C,m,done,?_,h3⟩;unfold GP;simp_all
theorem yGh:∀hs l,qI l→qI hs→(∀q∈hs,q∈l)→List.Perm (hs++mn l hs) l
 |[],l,_,_,_=>List.Perm.refl _
 |p::hs,l,hd,hh,dZ=>by
  have hp:=dZ p (by simp);obtain⟨h1,h2⟩:=qc hp;have hc:=List.pairwise_cons.1 hh;have:=yGh hs (jB l p.1) (List.Pairwise.sublist h2 hd) hc.2 (fun q hq=>QX hp (by grind) (by grind));exact(this.cons p).trans (K3 hd hp)
theorem vJ0 {k}(hk:100<k){B}(hb:qL B):mZ k B.1 B.2.1 B.2.2.1 B.2.2.2 []=some (B.1,B.2.1,B.2.2.1,B.2.2.2,0):=by
  obtain⟨r,h1,h3⟩:=Ki hk hb (l:=[]) (by simp);have aU:vK B.1.length []:=⟨by simp,by simp⟩;obtain⟨a',p',h4,h5⟩:=h3.1 aU;have ah:pU B.1.length B.1 B.2.2.2 [] B.1 B.2.2.2:={
    al:=rfl
    acct:=fun i hi=>by
      have hr:0≤(B.1.getD i ad).2.2:=by
        have:=hb.nums.res i hi;omega
      show B.1.getD i ad=((B.1.getD i ad).1+0,(B.1.getD i ad).2.1,wG (B.1.getD i ad).2.2 0);have e:wG (B.1.getD i ad).2.2 0=(B.1.getD i ad).2.2:=by
        unfold wG;omega
      simp_all
    pl:=hb.pl
    pr:=hb.pr
    cell:=fun i hi j hj=>by show _=_+0-0;omega}
  obtain⟨e1,e2⟩:=h4.same ah;subst e1;subst e2;rw[FJ.2 hb] at h5;simp_all
theorem Ra {k:Nat}(hk:200≤k){B:BT}(hb:qL B){l:List zG}(hd:qI l)(hl:∀q∈l,qY B.1.length q)(bT:l.length≤64)(t:Int):
  ∃(C:BT) (m done:List zG),w7 k B.1 B.2.1 B.2.2.1 B.2.2.2 l t=some (C.1,C.2.1,C.2.2.1,C.2.2.2,m,done)∧qL C∧C.1.length=B.1.length∧List.Sublist m l∧List.Perm (done++m) l∧(done=[]→C=B∧m=l):=by
 obtain⟨f,n,h,hn⟩:=Q1 hb hl bT t;have rZ:=th l t;have cB:=tf (yQ l t) f;have K2:=cB.length_le;obtain⟨r,h1,h2,h3⟩:=BW (k:=k) (by omega) hb (l:=yX (yQ l t) f) (by omega);have hs:=Kj hb h3;have g1:=Q9 (k:=k) (by omega) hb hl bT t (by omega) h h1;unfold B7 at g1;cases c:decide (r.2.2.2.2=0) with
 |false=>
  rw[c] at g1;exact⟨B,l,[],g1,hb,rfl,List.Sublist.refl _,List.Perm.refl _,fun _=>⟨rfl,rfl⟩⟩
 |true=>
  rw[c] at g1;have dP:List.Sublist (yX (yQ l t) f) l:=cB.trans List.filter_sublist;have hal:r.1.length=B.1.length:=by
   by_cases c':vK B.1.length (yX (yQ l t) f)
   ·obtain⟨a',p',x,e⟩:=h3.1 c';cases hi:j5 a' B.2.1 B.2.2.1 p' with
    |false=>rw[hi] at e;subst e;rfl
    |true=>rw[hi] at e;subst e;exact x.al
   ·rw[h3.2 c']
  refine⟨(r.1,r.2.1,r.2.2.1,r.2.2.2.1),mn l (yX (yQ l t) f),yX (yQ l t) f,g1,hs.2.1,hal,(K0 _ _).2,yGh _ _ hd (List.Pairwise.sublist dP hd) (fun q hq=>dP.subset hq),fun e=>?_⟩;rw[e] at h1⊢;rw[vJ0 (by omega) hb] at h1;cases h1;exact⟨rfl,rfl⟩
theorem vNi {k}(hk:200≤k){B}(hb:qL B){l}(hd:qI l)(hl:∀q∈l,qY B.1.length q)(bT:l.length≤64) t all:
  ∃(C:BT) (m done:List zG),tj k B.1 B.2.1 B.2.2.1 B.2.2.2 l t all=some (C.1,C.2.1,C.2.2.1,C.2.2.2,m,done)∧qL C∧C.1.length=B.1.length∧List.Sublist m l∧List.Perm (done++m) l∧jT k C (vO m t)=none∧jN k C m t=none:=by
 obtain⟨C,m,d,f1,f2,f3,f4,f5⟩:=Ch hk hb hd (by omega) t;have p1:=f2.perm hd;have l1:=p1.length_eq;rw[List.length_append] at l1;unfold tj;rw[f1];simp only[ak];cases all with
 |false=>exact⟨C,m,d,rfl,f3,f4,f5,p1,f2.final⟩
 |true=>
  have hm:qI m:=List.Pairwise.sublist f5 hd;obtain⟨D,n,x,g1,g2,g3,g4,g5,g6⟩:=Ra hk f3 hm (by grind) (by omega) t;have l2:=g5.length_eq;rw[List.length_append] at l2;rw[g1];simp only[ak];cases x with
  |nil=>
   obtain⟨rfl,rfl⟩:=g6 rfl;exact⟨D,n,d,rfl,f3,f4,f5,p1,f2.final⟩
  |cons p x=>
   have e1:decide ((((p::x).length:Nat):Int)=0)=false:=by grind
   have hn:qI n:=List.Pairwise.sublist g4 hm;obtain⟨E,o,y,k1,k2,k3,k4,k5⟩:=Ch hk g2 hn (by omega) t;have p3:=k2.perm hn;have l3:=p3.length_eq;rw[List.length_append] at l3;have r1:zR (d.length+(p::x).length) 56=true:=qT (by omega) (by omega);have r2:zR ((d++(p::x)).length+y.length) 56=true:=qT (by simp at l2⊢;omega) (by simp at l2⊢;omega);rw[k1];simp only[ak,r1,r2];refine⟨E,o,d++(p::x)++y,rfl,k3,k4.trans (g3.trans f4),k5.trans (g4.trans f5),?_,k2.final⟩;have e2:d++(p::x)++y++o=d++((p::x)++(y++o)):=by simp
   rw[e2];exact((p3.append_left (p::x)).append_left d).trans ((g5.append_left d).trans p1)
abbrev yB:=Int×Int×Int×Int×Int×Int×Int×Int
abbrev od:yB:=(0,(0,(0,(0,(0,(0,(0,0)))))))
instance w8:DecidableEq yB:=@instDecidableEqProd Int (Int×Int×Int×Int×Int×Int×Int) inferInstance (@instDecidableEqProd Int (Int×Int×Int×Int×Int×Int) inferInstance inferInstance)
def jH (to:Int)(p:zG):yB:=(to,18,p.1,p.2.1,p.2.2.1,p.2.2.2.1,0,0)
def oI (p:zG):List yB:=[jH p.2.1 p,jH p.2.2.1 p]
def vD:List zG→List yB
 |[]=>[]
 |p::l=>oI p++vD l
theorem qZi:∀l m,vD (l++m)=vD l++vD m
 |[],_=>rfl
 |p::l,m=>by
  show oI p++vD (l++m)=oI p++vD l++vD m;rw[qZi l m,List.append_assoc]
theorem Ck:∀l,(vD l).length=2*l.length
 |[]=>rfl
 |p::l=>by
  show(oI p++vD l).length=_;rw[List.length_append,Ck l];simp[oI];omega
theorem qYw (l:List zG) i (hi:i<l.length):vD (l.take (i+1))=vD (l.take i)++oI (l.getD i pd):=by
 rw[←ga l i pd hi,qZi];rfl
theorem tl {n}(h:n≤1000):zR (n+1) 64=true:=qT (by omega) (by omega)
theorem vJn {k}(hk:3≤k)(s8:List zG) s9 ao (r:List yB)(hr:r.length≤900) p:
  tm k k s8 s9 ao 2 0 r p.1 p.2.1 p.2.2.1 p.2.2.2.1 p.2.2.2.2.1 p.2.2.2.2.2.1 p.2.2.2.2.2.2 [p.2.1,p.2.2.1]=some (s8,s9,ao,r++oI p):=by
 obtain⟨n,rfl⟩:∃n,k=n+3:=⟨k-3,by omega⟩;have e1:zR (r.length+1) 64=true:=tl (by omega);have e2:zR ((r++[jH p.2.1 p]).length+1) 64=true:=tl (by grind);have h1:nn (n+3) p.2.1 18 [p.1,p.2.1,p.2.2.1,p.2.2.2.1]=some (jH p.2.1 p):=rfl;have h2:nn (n+3) p.2.2.1 18 [p.1,p.2.1,p.2.2.1,p.2.2.2.1]=some (jH p.2.2.1 p):=rfl;have w0:zA (0+1)=1:=by decide
 have w1:zA (1+1)=2:=by decide
 show tn (n+3) (tm (n+3) (n+2)) s8 s9 ao 2 0 r p.1 p.2.1 p.2.2.1 p.2.2.2.1 p.2.2.2.2.1 p.2.2.2.2.2.1 p.2.2.2.2.2.2 [p.2.1,p.2.2.1]=_;unfold tn;have g0:[p.2.1,p.2.2.1].getD (Int.toNat 0) 0=p.2.1:=rfl;have b0:zC 0 [p.2.1,p.2.2.1].length=true:=rfl;have d0:decide ((0:Int)<2)=true:=rfl;simp[e1];show tn (n+3) (tm (n+3) (n+1)) s8 s9 ao 2 1 (r++[jH p.2.1 p]) p.1 p.2.1 p.2.2.1 p.2.2.2.1 p.2.2.2.2.1 p.2.2.2.2.2.1 p.2.2.2.2.2.2 [p.2.1,p.2.2.1]=_;unfold tn;have g1:[p.2.1,p.2.2.1].getD (Int.toNat 1) 0=p.2.2.1:=rfl;have b1:zC 1 [p.2.1,p.2.2.1].length=true:=rfl;have d1:decide ((1:Int)<2)=true:=rfl;simp only[av,ak,e2];show tn (n+3) (tm (n+3) n) s8 s9 ao 2 2 (r++[jH p.2.1 p]++[jH p.2.2.1 p]) p.1 p.2.1 p.2.2.1 p.2.2.2.1 p.2.2.2.2.1 p.2.2.2.2.2.1 p.2.2.2.2.2.2 [p.2.1,p.2.2.1]=_;unfold tn;have d2:decide ((2:Int)<2)=false:=rfl;rw[d2,List.append_assoc];rfl
theorem qVu {k}{l:List zG}(hk:l.length+3≤k)(hl:l.length≤400):K5 k l=some (vD l):=by
 unfold K5;obtain ⟨s', h1, h2⟩ := yZ (L := fun n i (s : List yB) => GQ k n l l.length i s) (N := l.length) (fun s => s) (fun i s => s = vD (l.take i)) (fun n s _=>by
  show Cl k _ l l.length l.length s=_;unfold Cl;simp) (fun n i s hi hs=>by
  refine⟨_,?_,(qYw l i hi).symm⟩;show Cl k _ l l.length i s=_;unfold Cl;have dP:s.length≤900:=by
   rw[hs,Ck,List.length_take];omega
  have h2:=vJn (k:=k) (by omega) l l.length i s dP (l.getD i pd);simp only[zW,qM,aC,ag hi,av];rw[h2];simp[qD hi (by grind)];rw[hs]) (s:=[]) (show l.length<k by omega) rfl
 simp_all
theorem yY2 {k}{l:List zG}(hk:l.length+5≤k)(hl:l.length≤400):K6 k l=some (vD l):=by
 unfold K6;obtain ⟨s', h1, h2⟩ := yZ (L := fun n i (s : List yB) => GR k n l i s) (N := l.length) (fun s => s) (fun i s => s = vD (l.take i)) (fun n s _=>by
  show Cm k _ l l.length s=_;unfold Cm;simp) (fun n i s hi hs=>by
  refine⟨_,?_,(qYw l i hi).symm⟩;show Cm k _ l i s=_;unfold Cm;have dP:s.length≤900:=by
   rw[hs,Ck,List.length_take];omega
  obtain⟨j,rfl⟩:∃j,k=j+5:=⟨k-5,by omega⟩;have e2:zR (s.length+2) 64=true:=qT (by omega) (by omega);simp[zW,ag hi,e2,qD hi (by grind)];rw[hs];rfl) (s:=[]) (show l.length<k by omega) rfl
 simp_all
theorem eq8 (p q:yB):((decide (p.1=q.1))&&((decide (p.2.1=q.2.1))&&((decide (p.2.2.1=q.2.2.1))&&((decide (p.2.2.2.1=q.2.2.2.1))&&((decide (p.2.2.2.2.1=q.2.2.2.2.1))&&((decide (p.2.2.2.2.2.1=q.2.2.2.2.2.1))&&((decide (p.2.2.2.2.2.2.1=q.2.2.2.2.2.2.1))&&(decide (p.2.2.2.2.2.2.2=q.2.2.2.2.2.2.2)))))))))=decide (p=q):=by
 grind
theorem yY3 {k}{a b:List yB}(hk:a.length<k)(hl:a.length<9223372036854775808):K7 k a b=some (decide (a=b)):=by
 unfold K7;by_cases hlen:a.length=b.length
 case neg=>
  have e:decide (((a.length:Nat):Int)=((b.length:Nat):Int))=false:=by grind
  have:a≠b:=by grind
  simp_all
 have e:decide (((a.length:Nat):Int)=((b.length:Nat):Int))=true:=by grind
 have := jK (L := fun n i => GS k n a b i) (N := a.length) (fun i => decide (a.getD i od = b.getD i od)) (.inl ()) (.inr false) (fun n=>by
  show Cn k _ a b a.length=_;unfold Cn;simp) (fun n i hi=>by
  show Cn k _ a b i=_;unfold Cn;have e8:=eq8 (a.getD i od) (b.getD i od);simp only[zW,qD hi hl];simp_all) hk
 rw[this,FM od hlen];grind
def jS (q:zG)(o:yB):Bool:=decide (o.2.2.1=q.1)&&(decide (o.1=q.2.1)&&(decide (o.2.1=21)||(decide (o.2.1=22)||decide (o.2.1=18))))
def iB (q:zG)(o:List yB):Nat:=o.countP (jS q)
theorem w9 q a b:iB q (a++b)=iB q a+iB q b:=List.countP_append
theorem Rb {f:zG→Bool}{q:zG}:∀{ps:List zG},qI ps→q∈ps→f q=true→(∀p∈ps,f p=true→p.1=q.1)→ps.countP f=1
 |[],_,h,_,_=>by cases h
 |p::ps,hd,hq,hf,hu=>by
  have hc:=List.pairwise_cons.1 hd;rw[List.countP_cons];rcases List.mem_cons.1 hq with rfl|hq
  ·rw[hf,if_pos rfl];have:ps.countP f=0:=by
    rw[List.countP_eq_zero];intro r hr vh;exact hc.1 r hr (hu r (List.mem_cons_of_mem _ hr) vh).symm
   omega
  ·have:f p=false:=by
    cases h:f p with
    |false=>rfl
    |true=>exact absurd (hu p (List.mem_cons_self ..) h) (hc.1 q hq)
   rw[this,Rb hc.2 hq hf (fun r hr=>hu r (List.mem_cons_of_mem _ hr))];rfl
def vS (kd:Int)(p:zG):yB:=(p.2.1,kd,p.1,0,0,0,0,0)
theorem Co {kd:Int}(hk:kd=21∨kd=22){q:zG}{ps:List zG}(hd:qI ps):(q∈ps→iB q (ps.map (vS kd))=1)∧((∀p∈ps,p.1≠q.1)→iB q (ps.map (vS kd))=0):=by
 unfold iB;rw[List.countP_map];constructor
 ·intro h;apply Rb hd h
  ·show jS q (vS kd q)=true;unfold jS vS;rcases hk with rfl|rfl<;>simp
  ·intro p hp hf;have dG:jS q (vS kd p)=true:=hf;unfold jS vS at dG;rw[bJ,bO] at dG;exact dG.1
 ·intro h;rw[List.countP_eq_zero];intro p hp hf;have dG:jS q (vS kd p)=true:=hf;unfold jS vS at dG;rw[bJ,bO] at dG;exact h p hp dG.1
theorem qWu q:∀d,iB q (vD d)=d.countP (fun p=>jS q (jH p.2.1 p))+d.countP (fun p=>jS q (jH p.2.2.1 p))
 |[]=>rfl
 |p::d=>by
  show iB q (oI p++vD d)=_;rw[w9,qWu q d,List.countP_cons,List.countP_cons];have e:iB q (oI p)=(if jS q (jH p.2.1 p)=true then 1 else 0)+(if jS q (jH p.2.2.1 p)=true then 1 else 0):=by
   unfold iB oI;grind
  omega
theorem K8 {n:Nat}{q:zG}{d:List zG}(hd:qI d)(hm:∀p∈d,qY n p):(q∈d→iB q (vD d)=1)∧((∀p∈d,p.1≠q.1)→iB q (vD d)=0):=by
 have h2:∀(l:List zG),qI l→(∀p∈l,qY n p)→(q∈l∨∀p∈l,p.1≠q.1)→l.countP (fun p=>jS q (jH p.2.2.1 p))=0:=by
  intro l oJ BZ hq;rw[List.countP_eq_zero];intro p hp hf;have dG:jS q (jH p.2.2.1 p)=true:=hf;unfold jS jH at dG;rw[bJ,bJ,bO,bO] at dG;rcases hq with hq|hq
  ·have:=oJ.eq_of hp hq dG.1;subst this;exact(BZ p hp).ne dG.2.1.symm
  ·exact hq p hp dG.1
 rw[qWu];constructor
 ·intro h;rw[h2 d hd hm (.inl h),Rb hd h]
  ·show jS q (jH q.2.1 q)=true;unfold jS jH;simp
  ·intro p hp hf;have dG:jS q (jH p.2.1 p)=true:=hf;unfold jS jH at dG;rw[bJ,bO] at dG;exact dG.1
 ·intro h;rw[h2 d hd hm (.inr h)];have:d.countP (fun p=>jS q (jH p.2.1 p))=0:=by
   rw[List.countP_eq_zero];intro p hp hf;have dG:jS q (jH p.2.1 p)=true:=hf;unfold jS jH at dG;rw[bJ,bO] at dG;exact h p hp dG.1
  omega
def tp (B:BT)(i:Nat):yB:=((i:Int),23,(B.1.getD i ad).1,0,0,0,0,0)
def gd (B:BT)(n:Nat):List yB:=(List.range n).map (tp B)
theorem qYi q B n:iB q (gd B n)=0:=by
 unfold iB gd;rw[List.countP_map,List.countP_eq_zero];intro i _ hf;have dG:jS q (tp B i)=true:=hf;unfold jS tp at dG;simp at dG
theorem qWd B i:gd B (i+1)=gd B i++[tp B i]:=by
 unfold gd;rw[List.range_succ,List.map_append];rfl
theorem yLw {α β:Type}(f:α→β)(l:List α) i d (h:i<l.length):(l.take (i+1)).map f=(l.take i).map f++[f (l.getD i d)]:=by
 rw[←ga l i d h,List.map_append];rfl
theorem yBu {k B}(hB:B.1.length≤6)(hk:200≤k){m:List zG}(hm:m.length≤100) t pr ho ids to ov:
  K9 k t B.1 B.2.1 B.2.2.1 B.2.2.2 pr ho m ids to ov=some (t,B.1,B.2.1,B.2.2.1,B.2.2.2,pr,ho,[],ids,to,true,m.map (vS 22)++gd B B.1.length):=by
 unfold K9;obtain ⟨s', h1, h2⟩ := yZ (L := fun n i (s : List yB) => Cp k n m m.length i t B.1 B.2.1 B.2.2.1 B.2.2.2 pr ho m ids to ov 0 0 false s) (N := m.length) (fun s => (t, B.1, B.2.1, B.2.2.1, B.2.2.2, pr, ho, m, ids, to, ov, 0, 0, false, s)) (fun i s => s = (m.take i).map (vS 22)) (fun n s _=>by
  show Cq k _ m m.length m.length t B.1 B.2.1 B.2.2.1 B.2.2.2 pr ho m ids to ov 0 0 false s=_;unfold Cq;simp) (fun n i s hi hs=>by
  refine⟨_,?_,(yLw (vS 22) m i pd hi).symm⟩;show Cq k _ m m.length i t B.1 B.2.1 B.2.2.1 B.2.2.2 pr ho m ids to ov 0 0 false s=_;unfold Cq;have dP:s.length≤900:=by grind
  have Cr:nn k (m.getD i pd).2.1 22 [(m.getD i pd).1]=some (vS 22 (m.getD i pd)):=rfl;simp only[zW,qM,aC,ag hi,av,Cr,ak,tl (show s.length≤1000 by omega),qD hi (by grind)];rw[hs]) (s:=[]) (show m.length<k by omega) rfl
 have eL:Cp k k m m.length 0 t B.1 B.2.1 B.2.2.1 B.2.2.2 pr ho m ids to ov 0 0 false []=_:=h1;rw[eL,h2,List.take_length];obtain ⟨s2, g1, g2⟩ := yZ (L := fun n i (s : List yB) => GU k n B.1 B.1.length i t B.1 B.2.1 B.2.2.1 B.2.2.2 pr ho m ids to ov 0 0 false s) (N := B.1.length) (fun s => (t, B.1, B.2.1, B.2.2.1, B.2.2.2, pr, ho, m, ids, to, ov, 0, 0, false, s)) (fun i s => s = m.map (vS 22) ++ gd B i) (fun n s _=>by
  show Ct k _ B.1 B.1.length B.1.length t B.1 B.2.1 B.2.2.1 B.2.2.2 pr ho m ids to ov 0 0 false s=_;unfold Ct;simp) (fun n i s hi hs=>by
  refine⟨_,?_,(show m.map (vS 22)++gd B i++[tp B i]=m.map (vS 22)++gd B (i+1) by rw[qWd,List.append_assoc])⟩;show Ct k _ B.1 B.1.length i t B.1 B.2.1 B.2.2.1 B.2.2.2 pr ho m ids to ov 0 0 false s=_;unfold Ct;have dP:s.length≤900:=by
   rw[hs,List.length_append,List.length_map];unfold gd;grind
  have Cr:nn k i 23 [(B.1.getD i ad).1]=some (tp B i):=rfl;have ho3:nn k i 23 [(B.1.getD i (0,0,0)).1]=some (tp B i):=Cr;simp only[zW,qM,aC,ag hi,av,ho3,ak,tl (show s.length≤1000 by omega),qD hi (by grind)];rw[hs]) (s:=m.map (vS 22)) (show B.1.length<k by omega) (by show _=_++[];simp)
 simp_all
def yT (t:Int)(p:zG):Bool:=decide (t>p.2.2.2.2.2.2)
theorem yAt {k:Nat}(hk:200≤k){m:List zG}(hm:m.length≤100)(pa:Int)(as:List (Int×Int))(cu cl pe t:Int)(B:BT)(pr:AC)(ho:EQ)(ids:AC)(to:Int)(ov:Bool):
  Cu k k m m.length 0 pa as cu cl pe t B.1 B.2.1 B.2.2.1 B.2.2.2 pr ho m ids to ov 0 0 false [] []=some (pa,as,cu,cl,pe,t,B.1,B.2.1,B.2.2.1,B.2.2.2,pr,ho,m,ids,to,ov,0,0,false,(m.filter (yT t)).map (vS 21),m.filter (fun p=> !yT t p)):=by
 obtain ⟨s', h1, h2, h3⟩ := yZ (L := fun n i (s : List yB × List zG) => Cu k n m m.length i pa as cu cl pe t B.1 B.2.1 B.2.2.1 B.2.2.2 pr ho m ids to ov 0 0 false s.1 s.2) (N := m.length) (fun s => (pa, as, cu, cl, pe, t, B.1, B.2.1, B.2.2.1, B.2.2.2, pr, ho, m, ids, to, ov, 0, 0, false, s.1, s.2)) (fun i s => s.1 = ((m.take i).filter (yT t)).map (vS 21) ∧ s.2 = (m.take i).filter (fun p => !yT t p)) (fun n s _=>by
  show Cv k _ m m.length m.length pa as cu cl pe t B.1 B.2.1 B.2.2.1 B.2.2.2 pr ho m ids to ov 0 0 false s.1 s.2=_;unfold Cv;simp only [qM, ai (Nat.lt_irrefl _), ay]) (fun n i s hi hs=>by
  have pt:s.1.length≤900:=by
   rw[hs.1,List.length_map];have:=List.length_filter_le (yT t) (m.take i);rw[List.length_take] at this;omega
  have kZ:s.2.length≤900:=by
   rw[hs.2];have:=List.length_filter_le (fun p=> !yT t p) (m.take i);rw[List.length_take] at this;omega
  show∃s',Cv k _ m m.length i pa as cu cl pe t B.1 B.2.1 B.2.2.1 B.2.2.2 pr ho m ids to ov 0 0 false s.1 s.2=_∧_;unfold Cv Rc;have Cr:nn k (m.getD i pd).2.1 21 [(m.getD i pd).1]=some (vS 21 (m.getD i pd)):=rfl;simp only[pd] at Cr;simp only[zW,qM,aC,ag hi,av,Cr,ak,tl (show s.1.length≤1000 by omega),lu (show s.2.length≤1000 by omega),qD hi (show m.length<9223372036854775808 by omega)];have f1:=wm (yT t) m i pd hi;have f2:=wm (fun p=> !yT t p) m i pd hi;cases hb:yT t (m.getD i pd) with
  |true=>
   have bD:decide (t>(m.getD i (0,0,0,0,0,0,0)).2.2.2.2.2.2)=true:=hb;rw[bD];refine⟨(s.1++[vS 21 (m.getD i pd)],s.2),rfl,?_,?_⟩
   ·show s.1++_=_;rw[f1,hb,hs.1];simp
   ·show s.2=_;rw[f2,hb,hs.2];simp
  |false=>
   have bD:decide (t>(m.getD i (0,0,0,0,0,0,0)).2.2.2.2.2.2)=false:=hb;rw[bD];refine⟨(s.1,s.2++[m.getD i pd]),rfl,?_,?_⟩
   ·show s.1=_;rw[f1,hb,hs.1];simp
   ·show s.2++_=_;rw[f2,hb,hs.2];simp) (s:=([],[])) (show m.length<k by omega) ⟨rfl,rfl⟩
 have:=h1.trans (by rw[h2,h3,List.take_length]);exact this
structure yTq (t cl:Int) (B C:BT) (m m':List zG) (ov:Bool) (o:List yB):Prop where
 bk:qL C
 bl:C.1.length=B.1.length
 sub:List.Sublist m' m
 over:ov=decide (t+1=cl)
 none:ov=true→m'=[]
 late:ov=false→∀p∈m',yT (t+1) p=false
 Kj:∀p∈m',iB p o=0
 fL:∀p∈m,p∉m'→iB p o=1
 quiet:∀q:zG,(∀p∈m,p.1≠q.1)→iB q o=0
 room:o.length+2*m'.length≤2*m.length+(if ov=true then 6 else 0)
theorem qI.not_in {l m d:List zG}(hd:qI (d++m)){p}(hp:p∈m):∀q∈d,q.1≠p.1:=fun q hq=>(List.pairwise_append.1 hd).2.2 q hq p hp
structure jO (B C:BT):Prop where
 len:C.1.length=B.1.length
 sum:qE (fun i=>(C.1.getD i ad).1) B.1.length=qE (fun i=>(B.1.getD i ad).1) B.1.length
 cred:∀i,i<B.1.length→(C.1.getD i ad).2.1=(B.1.getD i ad).2.1
 bil:C.2.1=B.2.1
 mul:C.2.2.1=B.2.2.1
 fell:∀i,i<B.1.length→(C.1.getD i ad).1<(B.1.getD i ad).1→0≤(C.1.getD i ad).1+(C.1.getD i ad).2.1
theorem jO.refl B:jO B B:=⟨rfl,rfl,by simp,rfl,rfl,by simp⟩
theorem jO.trans {B C D}(h:jO B C)(g:jO C D):jO B D:=
 ⟨g.len.trans h.len,by have:=g.sum;rw[h.len] at this;exact this.trans h.sum,fun i hi=>(g.cred i (by rw[h.len];exact hi)).trans (h.cred i hi),g.bil.trans h.bil,g.mul.trans h.mul,fun i hi=>by
  have h1:=h.fell i hi;have h2:=g.fell i (by rw[h.len];exact hi);have h3:=g.cred i (by rw[h.len];exact hi);omega⟩
theorem yBb i:∀{l},(∀p∈l,0≤p.2.2.2.1)→0≤zM (gB i) l+(zM (gN i) l+zM (gR i) l)
 |[],_=>Int.le_refl _
 |p::l,h=>by
  have h1:=yBb i fun q hq=>h q (List.mem_cons_of_mem _ hq)
  have h2:=h p (by simp);have h3:0≤gB i p+(gN i p+gR i p):=by
   unfold gB gN gR;omega
  show 0≤gB i p+zM (gB i) l+(gN i p+zM (gN i) l+(gR i p+zM (gR i) l));omega
theorem vOe {a a' b p p' m l}(x:pU a.length a p l a' p')(hf:sV a b m p l=true)(hl:∀q∈l,qY a.length q){i}(hi:i<a.length):
  (a'.getD i ad).1<(a.getD i ad).1→0≤(a'.getD i ad).1+(a'.getD i ad).2.1:=by
 have h1:=yBb i (l:=l) fun q hq=>by have:=(hl q hq).a1;omega
 unfold sV at hf;rw[bJ] at hf;have h2:=wI.1 hf.2 i hi;unfold fi at h2;rw[x.acct i hi];grind
theorem yRq {B}(h:qL B){l}(hf:ta B l=true){r}(hp:ow B.1 B.2.1 B.2.2.1 B.2.2.2 l r):jO B (r.1,r.2.1,r.2.2.1,r.2.2.2.1):=by
 have hs:=(Kj h hp).1;by_cases c:vK B.1.length l
 ·obtain⟨a',p',x,e⟩:=hp.1 c;cases hi:j5 a' B.2.1 B.2.2.1 p' with
  |false=>rw[hi] at e;subst e;exact jO.refl B
  |true=>
   rw[hi] at e;subst e;exact⟨x.al,hs,fun i bE=>by show(a'.getD i ad).2.1=_;rw[x.acct i bE],rfl,rfl,fun i bE=>vOe x hf c.1 bE⟩
 ·rw[hp.2 c];exact jO.refl B
theorem yNl {k}(hk:100<k){B C}(h:qL B){l}(hl:l.length≤80)(hg:fL k B l=some C):jO B C:=by
 obtain⟨r,h1,h3⟩:=Ki hk h hl;unfold fL at hg;rw[h1] at hg;simp only at hg;cases hc:decide (r.2.2.2.2=0)&&ta B l with
 |false=>simp_all
 |true=>
  rw[hc] at hg;simp  at hg;subst hg;rw[bJ] at hc;exact yRq h hc.2 h3
theorem fj.keptC {k}(hk:100<k){t B C l done m}(h:fj k t B l done C m)(hb:qL B):jO B C:=by
 induction h with
 |stop _=>exact jO.refl _
 |@step B C D l m done p h h' ih=>
  have hg:=(wz h).2;exact(yNl hk hb (by simp) hg).trans (ih (oF hk hb (by simp) hg).1)
theorem wR.keptC {k}(hk:100<k){t B C l done m}(h:wR k t B l done C m)(hb:qL B):jO B C:=by
 induction h with
 |stop _=>exact jO.refl _
 |@step B C D l m done p q h h' ih=>
  have hg:=(KV h).2.2.2;exact(yNl hk hb (by simp) hg).trans (ih (oF hk hb (by simp) hg).1)
theorem fj.bk {k}(hk:100<k){t B C l done m}(h:fj k t B l done C m)(hb:qL B):qL C:=by
 induction h with
 |stop _=>exact hb
 |step h h' ih=>exact ih (oF hk hb (by simp) (wz h).2).1
theorem wR.bk {k}(hk:100<k){t B C l done m}(h:wR k t B l done C m)(hb:qL B):qL C:=by
 induction h with
 |stop _=>exact hb
 |step h h' ih=>exact ih (oF hk hb (by simp) (KV h).2.2.2).1
theorem j7.keptC {k}(hk:100<k){t B C l done m}(h:j7 k t B l done C m)(hb:qL B):jO B C:=by
 induction h with
 |stop h1 _=>exact h1.keptC hk hb
 |step h1 h2 ne h' ih=>
  have b1:=h1.bk hk hb;exact((h1.keptC hk hb).trans (h2.keptC hk b1)).trans (ih (h2.bk hk b1))
theorem vR8 {k}(hk:200≤k){B}(hb:qL B){l:List zG}(hl:∀q∈l,qY B.1.length q)(bT:l.length≤64) t {C:BT}{m done:List zG}(hr:w7 k B.1 B.2.1 B.2.2.1 B.2.2.2 l t=some (C.1,C.2.1,C.2.2.1,C.2.2.2,m,done)):jO B C:=by
 obtain⟨f,n,h,hn⟩:=Q1 hb hl bT t;have rZ:=th l t;have cB:=tf (yQ l t) f;have K2:=cB.length_le;obtain⟨r,h1,h3⟩:=Ki (k:=k) (by omega) hb (l:=yX (yQ l t) f) (by omega);have g1:=Q9 (k:=k) (by omega) hb hl bT t (by omega) h h1;unfold B7 at g1;rw[g1] at hr;cases c:decide (r.2.2.2.2=0) with
 |false=>
  rw[c] at hr;simp  at hr;obtain⟨e1,e2,e3,e4,_⟩:=hr;have:B=C:=by grind
  rw[←this];exact jO.refl B
 |true=>
  have:(r.1,r.2.1,r.2.2.1,r.2.2.2.1)=C:=by grind
  rw[←this];refine yRq hb ?_ h3;have hw:=GJ (GK (t:=t) hl) (by omega) f;have hs:=vEx.1 h.final;unfold ta sV;rw[wb.2 hw.1,ag hw.2];simp;rw[wI];intro j hj;have:=hs j hj;unfold qf at this;simp_all
theorem yYf {C D:BT}{m n d e:List zG}(h:(C.1,C.2.1,C.2.2.1,C.2.2.2,m,d)=(D.1,D.2.1,D.2.2.1,D.2.2.2,n,e)):C=D∧m=n∧d=e:=by
 grind
theorem yM3 {k}(hk:200≤k){B}(hb:qL B){l}(hd:qI l)(hl:∀q∈l,qY B.1.length q)(bT:l.length≤64) t all {X:BT}{mx dx:List zG}
  (hr:tj k B.1 B.2.1 B.2.2.1 B.2.2.2 l t all=some (X.1,X.2.1,X.2.2.1,X.2.2.2,mx,dx)):jO B X:=by
 obtain⟨C,m,d,f1,f2,f3,f4,f5⟩:=Ch hk hb hd (by omega) t;have q1:=f2.keptC (by omega) hb;have p1:=f2.perm hd;have l1:=p1.length_eq;rw[List.length_append] at l1;unfold tj at hr;rw[f1] at hr;simp only[ak] at hr;cases all with
 |false=>
  grind
 |true=>
  have hm:qI m:=List.Pairwise.sublist f5 hd;have Jf:∀q∈m,qY C.1.length q:=fun q hq=>by grind
  obtain⟨D,n,x,g1,g2,g3,g4,g5,g6⟩:=Ra hk f3 hm Jf (by omega) t;have q2:=vR8 hk f3 Jf (by omega) t g1;have l2:=g5.length_eq;rw[List.length_append] at l2;rw[g1] at hr;simp only[ak] at hr;cases x with
  |nil=>
   grind
  |cons p x=>
   have e1:decide ((((p::x).length:Nat):Int)=0)=false:=by grind
   rw[e1] at hr;simp only[ay] at hr;have hn:qI n:=List.Pairwise.sublist g4 hm;obtain⟨E,o,y,k1,k2,k3,k4,k5⟩:=Ch hk g2 hn (by omega) t;have q3:=k2.keptC (by omega) g2;have p3:=k2.perm hn;have l3:=p3.length_eq;rw[List.length_append] at l3;have r1:zR (d.length+(p::x).length) 56=true:=by grind
   have r2:zR ((d++(p::x)).length+y.length) 56=true:=by grind
   rw[k1] at hr;simp only[ak,r1,r2,av] at hr;have sb:some (E.1,E.2.1,E.2.2.1,E.2.2.2,o,d++(p::x)++y)=some (X.1,X.2.1,X.2.2.1,X.2.2.2,mx,dx):=hr;rw[←(yYf (Option.some.inj sb)).1];exact(q1.trans q2).trans q3
theorem vL6 {k}(hk:200≤k){B}(hb:qL B){m}(hd:qI m)(hm:∀q∈m,qY B.1.length q)(bT:m.length≤64) pa (sa:List (Int×Int)) cu cl pe t (ht:0≤t∧t<1099511627776)(GV:pe≠0) pr ho ids to:
  ∃(C:BT) (m':List zG) (ov:Bool) (o:List yB),tq k pa sa cu cl pe t B.1 B.2.1 B.2.2.1 B.2.2.2 pr ho m ids to false=some (t+1,C.1,C.2.1,C.2.2.1,C.2.2.2,pr,ho,m',ids,to,ov,o)∧yTq t cl B C m m' ov o∧jO B C∧(ov=false→jT k C (vO m' (t+1))=none)∧
   ((ov=true∧m'=[]∧o=m.map (vS 22)++gd B B.1.length∧C=B)∨∃l d n,o=l.map (vS 21)++vD d∧List.Perm (l++n) m∧List.Perm (d++m') n∧ov=false):=by
 have eQ:=hb.n6;have w:zA (t+1)=t+1:=zN (by omega) (by omega);unfold tq xa;simp only[w,ay,ak];cases hc:decide (t+1=cl) with
 |true=>
  simp only[av];rw[yBu eQ hk (by omega)];simp only[ak];refine⟨B,[],true,_,rfl,⟨hb,rfl,List.nil_sublist m,hc.symm,fun _=>rfl,(fun e=>by cases e),(fun p hp=>by cases hp),fun p hp _=>?_,fun q hq=>?_,?_⟩,jO.refl B,(fun e=>by cases e),.inl ⟨rfl,rfl,rfl,rfl⟩⟩
  ·rw[w9,(Co (.inr rfl) hd).1 hp,qYi]
  ·rw[w9,(Co (.inr rfl) hd).2 hq,qYi]
  ·rw[List.length_append,List.length_map];unfold gd;rw[List.length_map,List.length_range];simp;omega
 |false=>
  simp only[ay];rw[yAt hk (by omega)];simp only[ak];have hs:∃x,Cw k pa sa cu cl pe (t+1)=some x:=by
   unfold Cw;cases decide (t+1>0) with
   |false=>exact⟨_,rfl⟩
   |true=>
    cases decide (t+1<cl) with
    |false=>exact⟨_,rfl⟩
    |true=>
     have:decide (pe=0)=false:=ai GV;rw[this];exact⟨_,rfl⟩
  obtain⟨x,hx⟩:=hs;rw[hx];simp only[ak];have cB:List.Sublist (m.filter (fun p=> !yT (t+1) p)) m:=List.filter_sublist;have dP:=cB.length_le;have oJ:qI (m.filter (fun p=> !yT (t+1) p)):=List.Pairwise.sublist cB hd;obtain⟨C,m',d,f1,f2,f3,f4,f5,f6,f7⟩:=vNi hk hb oJ (fun q hq=>hm q (cB.subset hq)) (by omega) (t+1) x;have hlen:=f5.length_eq;rw[List.length_append] at hlen;have hSt:qg k (t+1) B.1 B.2.1 B.2.2.1 B.2.2.2 pr ho (m.filter (fun p=> !yT (t+1) p)) ids to false x=some (t+1,C.1,C.2.1,C.2.2.1,C.2.2.2,pr,ho,m',ids,to,false,vD d):=by
   unfold qg;rw[f1];simp only[ak];rw[qVu (by omega) (by omega)];rfl
  rw[hSt];have aag:(m.filter (yT (t+1))).length+(m.filter (fun p=> !yT (t+1) p)).length=m.length:=by
   rw[←List.countP_eq_length_filter,←List.countP_eq_length_filter];have:=List.length_eq_countP_add_countP (yT (t+1)) (l:=m);simp only[Bool.not_eq_true,Bool.decide_eq_false] at this;exact this.symm
  have zr:=Ck d;have hr:zR (((m.filter (yT (t+1))).map (vS 21)).length+(vD d).length) 64=true:=qT (by rw[List.length_map];omega) (by rw[List.length_map];omega);simp only[ak,hr,av];have hdd:qI (d++m'):=oJ.perm f5;have qh:qI d:=(List.pairwise_append.1 hdd).1;have hdm:∀p∈d,p∈m.filter (fun p=> !yT (t+1) p):=by grind
  have kI:∀p∈d,qY B.1.length p:=fun p hp=>hm p (cB.subset (hdm p hp))
  have qi:qI (m.filter (yT (t+1))):=hd.filter _;have tt:∀p∈m,yT (t+1) p=false→∀q∈m.filter (yT (t+1)),q.1≠p.1:=by
   intro p hp hl q hq e;have h1:=List.mem_filter.1 hq;have:=hd.eq_of h1.1 hp e;subst this;rw[hl] at h1;exact absurd h1.2 (by simp)
  refine⟨C,m',false,_,rfl,⟨f2,f3,f4.trans cB,hc.symm,(fun e=>by cases e),fun _ p hp=>?_,fun p hp=>?_,fun p hp hn=>?_,fun q hq=>?_,?_⟩,yM3 hk hb oJ (fun q hq=>hm q (cB.subset hq)) (by omega) (t+1) x f1,(fun _=>f6),.inr ⟨m.filter (yT (t+1)),d,m.filter (fun p=> !yT (t+1) p),rfl,List.filter_append_perm _ _,f5,rfl⟩⟩
  ·have:=(List.mem_filter.1 (f4.subset hp)).2
   simpa using this
  ·have h1:=List.mem_filter.1 (f4.subset hp);have hl:yT (t+1) p=false:=by simpa using h1.2
   rw[w9,(Co (.inl rfl) qi).2 (tt p h1.1 hl),(K8 qh kI).2 (hdd.not_in (l:=d) hp)]
  ·cases hl:yT (t+1) p with
   |true=>
    have h1:p∈m.filter (yT (t+1)):=List.mem_filter.2 ⟨hp,hl⟩;have h2:∀q∈d,q.1≠p.1:=by
     grind
    rw[w9,(Co (.inl rfl) qi).1 h1,(K8 qh kI).2 h2]
   |false=>
    have h1:p∈m.filter (fun p=> !yT (t+1) p):=List.mem_filter.2 ⟨hp,by rw[hl];rfl⟩;have h2:p∈d:=by
     rcases List.mem_append.1 (f5.symm.subset h1) with h|h
     ·exact h
     ·exact absurd h hn
    rw[w9,(Co (.inl rfl) qi).2 (tt p hp hl),(K8 qh kI).1 h2]
  ·rw[w9,(Co (.inl rfl) qi).2 (by grind),(K8 qh kI).2 (fun p hp=>hq p (cB.subset (hdm p hp)))]
  ·rw[List.length_append,List.length_map];simp;omega
end Go.Ab.Gi
