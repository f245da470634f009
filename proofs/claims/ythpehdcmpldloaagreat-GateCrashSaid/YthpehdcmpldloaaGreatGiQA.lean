/- Plain proofs, part 0. -/
import Derived.Test.YthpehdcmpldloaaGreatGiAbC
import Derived.Test.YthpehdcmpldloaaGreatGiXS
set_option linter.unusedVariables false
set_option linter.unusedSimpArgs false
set_option maxRecDepth 100000
set_option linter.unusedSectionVars false
namespace Go.Ab
theorem aa {p:Prop}[Decidable p](h:p):decide p=true:=decide_eq_true h
theorem ab {p:Prop}[Decidable p](h:¬p):decide p=false:=decide_eq_false h
theorem ID {p:Prop}[Decidable p](h:decide p=true):p:=of_decide_eq_true h
theorem gE {p:Prop}[Decidable p](h:decide p=false):¬p:=of_decide_eq_false h
theorem aX {p:Prop}[Decidable p]:(decide p=true)=p:=decide_eq_true_eq
theorem ae {α β:Type}(a:α)(f:α→Option β):(some a).bind f=f a:=rfl
theorem aj {α:Type}(a b:α):cond true a b=a:=rfl
theorem ak {α:Type}(a b:α):cond false a b=b:=rfl
theorem aq (n:Nat):(n:Int).toNat=n:=rfl
theorem ba (a b:Bool):((a&&b)=true)=(a=true∧b=true):=Bool.and_eq_true a b
theorem aA:(!true)=false:=rfl
theorem bQ:(!false)=true:=rfl
end Go.Ab
namespace Go.Ab
theorem zN {x:Int}(h1:-9223372036854775808≤x)(h2:x<9223372036854775808):zA x=x:=by
 unfold zA IntKind.wrap;simp only[IntKind.bits,IntKind.signed,Bool.true_and];by_cases h:x%2^64≥2^(64-1)
 ·rw[if_pos (by simpa using h)];omega
 ·rw[if_neg (by simpa using h)];omega
theorem T9 (x:Int):-9223372036854775808≤zA x:=by
 unfold zA IntKind.wrap;simp only[IntKind.bits,IntKind.signed,Bool.true_and];by_cases h:x%2^64≥2^(64-1)
 ·rw[if_pos (by simpa using h)];omega
 ·rw[if_neg (by simpa using h)];omega
theorem vSy (x:Int):zA x<9223372036854775808:=by
 unfold zA IntKind.wrap;simp only[IntKind.bits,IntKind.signed,Bool.true_and];by_cases h:x%2^64≥2^(64-1)
 ·rw[if_pos (by simpa using h)];omega
 ·rw[if_neg (by simpa using h)];omega
theorem qE {i N:Nat}(h:i<N)(hN:N<9223372036854775808):zA ((i:Int)+1)=((i+1:Nat):Int):=by
 rw[zN (by omega) (by omega)];rfl
theorem wx {n}(h:(Lit.int .i64 n).wf=true):-9223372036854775808≤n∧n<9223372036854775808:=by
 simp[Lit.wf,IntKind.min,IntKind.bits] at h;grind
theorem qB (i n:Nat):zB (i:Int) n=decide (i<n):=by
 unfold zB;simp
theorem fl {i:Int}{n:Nat}(h0:0≤i)(h1:i<n):zB i n=true:=by
 unfold zB;simp;omega
theorem qJ {n b}(h:n*b≤140737488355328)(h':n≤140737488355328):zP n b=true:=by
 simp_all
theorem qP (i n:Nat):decide ((i:Int)<(n:Int))=decide (i<n):=by simp
theorem sd (i n:Nat):decide ((i:Int)=(n:Int))=decide (i=n):=by
 by_cases h:i=n
 ·subst h;simp
 ·rw[ab h,ab (by omega)]
def qF (p:Nat→Bool):Nat→Nat→Bool
 |0,_=>true
 |c+1,i=>p i&&qF p c (i+1)
theorem yGf {p:Nat→Bool}:∀{c i:Nat},qF p c i=true↔∀j,i≤j→j<i+c→p j=true
 |0,i=>by simp[qF];intro j h1 h2;omega
 |c+1,i=>by
  simp only[qF,ba,yGf (c:=c)];constructor
  ·rintro⟨h1,h2⟩ j h3 h4
   by_cases e:j=i
   ·subst e;exact h1
   ·exact h2 j (by omega) (by omega)
  ·intro h;exact⟨h i (Nat.le_refl i) (by omega),fun j h1 h2=>h j (by omega) (by omega)⟩
theorem gg {p c}:qF p c 0=true↔∀j,j<c→p j=true:=by
 rw[yGf];simp
theorem Ua {X:Type}{L:Nat→Int→Option X}{N:Nat} ok a b (bM:∀n,L (n+1) (N:Int)=some a)
  (aK:∀n i,i<N→L (n+1) (i:Int)=bif ok i then L n ((i+1:Nat):Int) else some b):∀c i n,i+c=N→c<n→L n (i:Int)=some (bif qF ok c i then a else b)
 |0,i,n,h,hn=>by
  obtain⟨n,rfl⟩:∃m,n=m+1:=⟨n-1,by omega⟩;have:i=N:=by omega
  subst this;exact bM n
 |c+1,i,n,h,hn=>by
  obtain⟨n,rfl⟩:∃m,n=m+1:=⟨n-1,by omega⟩;rw[aK n i (by omega)];unfold qF;cases ok i with
  |false=>rfl
  |true=>
   exact Ua ok a b bM aK c (i+1) n (by omega) (by omega)
theorem lT {X:Type}{L:Nat→Int→Option X}{N:Nat} ok a b (bM:∀n,L (n+1) (N:Int)=some a)
  (aK:∀n i,i<N→L (n+1) (i:Int)=bif ok i then L n ((i+1:Nat):Int) else some b) {n} (hn:N<n):L n 0=some (bif qF ok N 0 then a else b):=
 Ua ok a b bM aK N 0 n (by omega) hn
theorem yD1 {L:Nat→Int→Option (Unit⊕Int)}{N:Nat}(bad:Nat→Bool)(bM:∀n,L (n+1) (N:Int)=some (.inl ()))
  (aK:∀n i,i<N→L (n+1) (i:Int)=bif bad i then some (.inr (i:Int)) else L n ((i+1:Nat):Int)):
  ∀c i n,i+c=N→c<n→(qF (fun j=> !bad j) c i=true∧L n (i:Int)=some (.inl ()))∨∃x:Nat,i≤x∧x<N∧bad x=true∧(∀j,i≤j→j<x→bad j=false)∧qF (fun j=> !bad j) c i=false∧L n (i:Int)=some (.inr (x:Int))
 |0,i,n,h,hn=>by
  obtain⟨n,rfl⟩:∃m,n=m+1:=⟨n-1,by omega⟩;have:i=N:=by omega
  subst this;exact .inl ⟨rfl,bM n⟩
 |c+1,i,n,h,hn=>by
  obtain⟨n,rfl⟩:∃m,n=m+1:=⟨n-1,by omega⟩;rw[aK n i (by omega)];unfold qF;cases hb:bad i with
  |true=>exact .inr ⟨i,Nat.le_refl i,by omega,hb,fun j h1 h2=>absurd h1 (by omega),rfl,rfl⟩
  |false=>
   simp only[ak,bQ,Bool.true_and];rcases yD1 bad bM aK c (i+1) n (by omega) (by omega) with h1|⟨x,x1,x2,x3,x4,x5,x6⟩
   ·exact .inl h1
   ·refine .inr ⟨x,by omega,x2,x3,fun j h1 h2=>?_,x5,x6⟩;by_cases e:j=i
    ·subst e;exact hb
    ·exact x4 j (by omega) h2
theorem wy {L:Nat→Int→Option (Unit⊕Int)}{N:Nat}(bad:Nat→Bool)(bM:∀n,L (n+1) (N:Int)=some (.inl ()))
  (aK:∀n i,i<N→L (n+1) (i:Int)=bif bad i then some (.inr (i:Int)) else L n ((i+1:Nat):Int)) {n:Nat} (hn:N<n):
  ∃x:Unit⊕Int,L n 0=some x∧decide ((match x with|.inl _=>(-1:Int)|.inr y=>y)≥0)= !qF (fun j=> !bad j) N 0:=by
 rcases yD1 bad bM aK N 0 n (by omega) hn with⟨h1,h2⟩|⟨x,_,_,_,_,h5,h6⟩
 ·exact⟨_,h2,by rw[h1];rfl⟩
 ·exact⟨_,h6,by rw[h5];simp⟩
theorem yPt {S X:Type}{L:Nat→Int→S→Option X}{N}(e:S→X)(inv:Nat→S→Prop)(bM:∀n s,inv N s→L (n+1) (N:Int) s=some (e s))
  (aK:∀n i s,i<N→inv i s→∃s',L (n+1) (i:Int) s=L n ((i+1:Nat):Int) s'∧inv (i+1) s'):
  ∀c i n s,i+c=N→c<n→inv i s→∃s',L n (i:Int) s=some (e s')∧inv N s'
 |0,i,n,s,h,hn,hs=>by
  obtain⟨n,rfl⟩:∃m,n=m+1:=⟨n-1,by omega⟩;grind
 |c+1,i,n,s,h,hn,hs=>by
  obtain⟨n,rfl⟩:∃m,n=m+1:=⟨n-1,by omega⟩;obtain⟨s',h1,h2⟩:=aK n i s (by omega) hs;rw[h1];exact yPt e inv bM aK c (i+1) n s' (by omega) (by omega) h2
theorem vJ {S X:Type}{L:Nat→Int→S→Option X}{N}(e:S→X)(inv:Nat→S→Prop)(bM:∀n s,inv N s→L (n+1) (N:Int) s=some (e s))
 (aK:∀n i s,i<N→inv i s→∃s',L (n+1) (i:Int) s=L n ((i+1:Nat):Int) s'∧inv (i+1) s') {n s} (hn:N<n) (hs:inv 0 s):
 ∃s',L n 0 s=some (e s')∧inv N s':=yPt e inv bM aK N 0 n s (by omega) hn hs
def zO {α:Type}(g:α→Int):List α→Int
 |[]=>0
 |p::l=>g p+zO g l
theorem lU {α} g:∀(l m:List α),zO g (l++m)=zO g l+zO g m
 |[],m=>by simp[zO]
 |p::l,m=>by
  show g p+zO g (l++m)=g p+zO g l+zO g m;rw[lU g l m];omega
theorem Ds {α g A}:∀{l:List α},(∀p∈l,-A≤g p∧g p≤A)→-(l.length*A)≤zO g l∧zO g l≤l.length*A
 |[],_=>by simp[zO]
 |p::l,h=>by
  have h1:=h p (by simp);have h2:=Ds (l:=l) fun q hq=>h q (by grind)
  have e:((p::l).length:Int)*A=(l.length:Int)*A+A:=by
   rw[List.length_cons,Int.natCast_add,Int.add_mul];simp
  show-_≤g p+zO g l∧g p+zO g l≤_;omega
theorem wz {α g}:∀{l:List α},(∀p∈l,0≤g p)→0≤zO g l
 |[],_=>by simp[zO]
 |p::l,h=>by
  have h1:=h p (by simp);have h2:=wz (l:=l) fun q hq=>h q (by grind)
  show 0≤g p+zO g l;omega
theorem yOl {α} g h:∀(l:List α),zO (fun p=>g p+h p) l=zO g l+zO h l
 |[]=>rfl
 |p::l=>by
  show g p+h p+zO _ l=g p+zO g l+(h p+zO h l);rw[yOl g h l];omega
theorem Ub {α} g h:∀(l:List α),zO (fun p=>g p-h p) l=zO g l-zO h l
 |[]=>rfl
 |p::l=>by
  show g p-h p+zO _ l=g p+zO g l-(h p+zO h l);rw[Ub g h l];omega
theorem M8 {α g h}:∀{l:List α},(∀p∈l,g p=h p)→zO g l=zO h l
 |[],_=>rfl
 |p::l,e=>by
  show g p+zO g l=h p+zO h l;rw[e p (by simp),M8 fun q hq=>e q (by grind)]
def qG (g:Nat→Int):Nat→Int
 |0=>0
 |n+1=>qG g n+g n
theorem Dt g h:∀n,qG (fun j=>g j+h j) n=qG g n+qG h n
 |0=>rfl
 |n+1=>by
  show qG _ n+(g n+h n)=qG g n+g n+(qG h n+h n);rw[Dt g h n];omega
theorem se {g h}:∀{n},(∀j,j<n→g j=h j)→qG g n=qG h n
 |0,_=>rfl
 |n+1,e=>by
  show qG g n+g n=qG h n+h n;rw[se fun j hj=>e j (by omega),e n (by simp)]
theorem AI (c:Int)(t:Nat):∀n,qG (fun j=>if j=t then c else 0) n=if t<n then c else 0
 |0=>rfl
 |n+1=>by
  show qG _ n+(if n=t then c else 0)=_;rw[AI c t n];by_cases h:t<n
  ·rw[if_pos h,if_neg (by omega),if_pos (by omega)];omega
  ·by_cases h':n=t
   ·rw[if_neg h,if_pos h',if_pos (by omega)];omega
   ·rw[if_neg h,if_neg h',if_neg (by omega)];omega
theorem Uc:∀n,qG (fun _=>0) n=0
 |0=>rfl
 |n+1=>by show qG _ n+0=0;rw[Uc n];rfl
theorem w6 {g A}(h:∀j,-A≤g j∧g j≤A):∀n:Nat,-(n*A)≤qG g n∧qG g n≤n*A
 |0=>by simp[qG]
 |n+1=>by
  have h1:=h n;have h2:=w6 h n;have e:((n+1:Nat):Int)*A=(n:Int)*A+A:=by
   grind
  show-_≤qG g n+g n∧qG g n+g n≤_;omega
theorem M9 {α}(g:Nat→α→Int) n:∀l:List α,qG (fun j=>zO (g j) l) n=zO (fun p=>qG (fun j=>g j p) n) l
 |[]=>Uc n
 |p::l=>by
  show qG (fun j=>g j p+zO (g j) l) n=qG (fun j=>g j p) n+zO _ l;rw[Dt,M9 g n l]
theorem gh {α:Type}{l:List α}{i d}(h:i<l.length):l.getD i d∈l:=by
 simp_all
theorem fH {α:Type}(l:List α) i d (h:i<l.length):l.take i++[l.getD i d]=l.take (i+1):=by
 simp_all
theorem fm {α:Type}(l:List α)(i j:Nat)(a d:α):(l.set i a).getD j d=if i=j∧i<l.length then a else l.getD j d:=by
 rw[List.getD_eq_getElem?_getD,List.getD_eq_getElem?_getD,List.getElem?_set];by_cases h:i=j
 ·subst h;by_cases h':i<l.length<;>simp[h']
 ·simp[h]
theorem Du {α:Type}{l m:List α} d (hl:l.length=m.length)(h:∀i,i<l.length→l.getD i d=m.getD i d):l=m:=by
 apply List.ext_getElem hl;simp_all
theorem vYl m (hm:m≤62) x:yJ .i64 x (2^m-1)=x%2^m:=by
 unfold yJ sX;have hp:(2:Int)^m=((2^m:Nat):Int):=by rfl
 have hle:2^m≤2^62:=Nat.pow_le_pow_right (by omega) hm;have lE:0<2^m:=by grind
 have e1:(BitVec.ofInt IntKind.i64.bits x&&&BitVec.ofInt IntKind.i64.bits (2^m-1)).toNat=(x%2^m).toNat:=by
  rw[BitVec.toNat_and,BitVec.toNat_ofInt,BitVec.toNat_ofInt];have e2:((2:Int)^m-1)%((2^IntKind.i64.bits:Nat):Int)=((2^m-1:Nat):Int):=by
   rw[hp];have:((2^m:Nat):Int)-1=((2^m-1:Nat):Int):=by omega
   rw[this];apply Int.emod_eq_of_lt (by omega);show((2^m-1:Nat):Int)<((2^64:Nat):Int);omega
  rw[e2,aq,Nat.and_two_pow_sub_one_eq_mod];have hx:0≤x%((2^IntKind.i64.bits:Nat):Int):=by omega
  have e3:x%2^m=(x%((2^IntKind.i64.bits:Nat):Int))%((2^m:Nat):Int):=by
   rw[hp,Int.emod_emod_of_dvd];show((2^m:Nat):Int)∣((2^64:Nat):Int);exact Int.natCast_dvd_natCast.2 (Nat.pow_dvd_pow 2 (by omega))
  grind
 rw[e1];have h0:0≤x%2^m:=by omega
 rw[Int.toNat_of_nonneg h0];exact zN (by omega) (by omega)
end Go.Ab
namespace Go.Ab.Gi
open Go.Ab
def sf (s c:Int):Int:=wG .u64 (shl .u64 s 8) (IntKind.wrap .u64 c)
def Dv (b:AC):Int:=zA (b.foldl sf 0)
def w7:Nat→AC→AC
 |0,_=>[]
 |m+1,b=>Dv (b.take 8)::w7 m (b.drop 8)
theorem Ud {x:AC}{i}(h:i<x.length) s:(x.take (i+1)).foldl sf s=sf ((x.take i).foldl sf s) (x.getD i 0):=by
 rw[←fH x i 0 h,List.foldl_append];rfl
theorem vDq {k}(hk:9≤k) s0 x r0 (hx:x.length=8):Dw k k s0 0 x 8 0 r0=some (s0,x.foldl sf 0,r0):=by
 obtain ⟨s, h1, h2⟩ := vJ (L := fun n i (s : Int) => Dw k n s0 s x 8 i r0) (N := 8) (fun s => (s0, s, r0)) (fun i s => s = (x.take i).foldl sf 0) (fun n s _ => rfl) (fun n i s hi hs=>by
  refine⟨sf s (x.getD i 0),?_,by rw[Ud (by omega),hs]⟩;show Na k (Dw k n) s0 s x 8 (i:Int) r0=_;unfold Na;rw[aa (by grind),aj,fl (by omega) (by omega),aj,qE (N:=8) hi (by omega),aq];rfl) (n:=k) (s:=0) (by omega) rfl
 grind
theorem vAr {k}(hk:9≤k):∀m n b r,b.length=8*m→m<n→r.length+m≤17592186044416→Dx k n b r=some (r++w7 m b)
 |0,n,b,r,hb,hn,_=>by
  obtain⟨n,rfl⟩:∃x,n=x+1:=⟨n-1,by omega⟩;show Dy k (Dx k n) b r=_;unfold Dy;rw[ab (by omega),ak];simp[w7]
 |m+1,n,b,r,hb,hn,hr=>by
  obtain⟨n,rfl⟩:∃x,n=x+1:=⟨n-1,by omega⟩;show Dy k (Dx k n) b r=_;unfold Dy;have ht:(b.take 8).length=8:=by grind
  have e8:((b.take 8).length:Int)=8:=by omega
  rw[aa (by grind),aj,aa (by grind),aj,e8,vDq hk _ _ _ ht,ae];dsimp only;rw[qJ (by omega) (by omega),aj,aa (by grind),aj];rw[vAr hk m n _ _ (by grind) (by omega) (by grind)];rw[List.append_assoc];rfl
theorem vH1 (n:Nat):Int.tmod (n:Int) 8=((n%8:Nat):Int):=rfl
def ij (b:AC):AC×Int:=if b.length%8=0 then(w7 (b.length/8) b,0) else([],2)
theorem yOy {k:Nat}{b:AC}(hk:9≤k)(hb:b.length<8*k)(bF:b.length≤140737488355328):sg k b=some (ij b):=by
 unfold sg ij;rw[vH1];by_cases h:b.length%8=0
 ·rw[if_pos h,aa (by omega),vAr hk (b.length/8) k b [] (by omega) (by omega) (by simp;omega)];rfl
 ·rw[if_neg h,ab (by omega)];rfl
def yD3:AC:=[(-1),6,1,2,2,2,1,1,2,0,2,2,2,0,0,0,1,5,4,1,1,1,1,1]
def yC (x:Int):Int:=if 0≤x∧x<24 then yD3.getD x.toNat 0 else-1
theorem Ue (k:Nat)(x:Int):Dz k x=some (yC x):=by
 unfold Dz yC;by_cases h:x<0
 ·rw[aa h,if_neg (by omega)];rfl
 ·rw[ab h,ak];by_cases h2:x≥24
  ·rw[aa h2,if_neg (by omega)];rfl
  ·rw[ab h2,ak,fl (by omega) (by omega),aj,if_pos (by omega)];rfl
theorem IE (k:Nat)(x:Int):tY k x=some (yC x):=by
 by_cases h:0≤x∧x<24
 ·obtain⟨n,rfl⟩:∃n:Nat,x=n:=⟨x.toNat,by omega⟩;have hn:n<24:=by omega
  have:∀n:Nat,n<24→tY 0 (n:Int)=some (yC (n:Int)):=by decide
  exact this n hn
 ·have e:yC x= -1:=by unfold yC;rw[if_neg h]
  rw[e];unfold tY;have ne:∀c:Int,0≤c→c<24→decide (x=c)=false:=fun c h1 h2=>ab (by omega)
  rw[ne 9 (by omega) (by omega),ne 13 (by omega) (by omega),ne 14 (by omega) (by omega),ne 15 (by omega) (by omega),ne 2 (by omega) (by omega),ne 6 (by omega) (by omega),ne 7 (by omega) (by omega),ne 16 (by omega) (by omega),
   ne 19 (by omega) (by omega),ne 20 (by omega) (by omega),ne 21 (by omega) (by omega),ne 22 (by omega) (by omega),ne 23 (by omega) (by omega),ne 3 (by omega) (by omega),ne 4 (by omega) (by omega),ne 5 (by omega) (by omega),ne 8 (by omega) (by omega),
   ne 10 (by omega) (by omega),ne 11 (by omega) (by omega),ne 12 (by omega) (by omega),ne 18 (by omega) (by omega),ne 17 (by omega) (by omega),ne 1 (by omega) (by omega)]
  rfl
def mL (b:AC):zC×Int:=
 if b=[] then((0,0,0,0,0,0,0),2)
 else if(ij (b.drop 1)).2≠0∨((ij (b.drop 1)).1.length:Int)≠yC (zA (b.getD 0 0)) then((0,0,0,0,0,0,0),2)
 else((zA (b.getD 0 0),(ij (b.drop 1)).1.getD 0 0,(ij (b.drop 1)).1.getD 1 0,(ij (b.drop 1)).1.getD 2 0,(ij (b.drop 1)).1.getD 3 0,(ij (b.drop 1)).1.getD 4 0,(ij (b.drop 1)).1.getD 5 0),0)
theorem vZf (l:AC)(i:Nat):(bif Nat.blt i l.length then l.getD i 0 else 0)=l.getD i 0:=by
 by_cases h:i<l.length
 ·rw[show Nat.blt i l.length=true by simp[Nat.blt_eq,h]];rfl
 ·rw[show Nat.blt i l.length=false by
   cases e:Nat.blt i l.length with
   |false=>rfl
   |true=>rw[Nat.blt_eq] at e;omega]
  rw[List.getD_eq_getElem?_getD,List.getElem?_eq_none (by omega)];rfl
theorem yN3 {k:Nat}{b:AC}(hk:9≤k)(hb:b.length≤8*k)(bF:b.length≤140737488355328):AJ k b=some (mL b):=by
 unfold AJ mL;cases b with
 |nil=>rfl
 |cons c l=>
  rw[if_neg (by simp)];have e0:((c::l).length:Int)=(l.length:Int)+1:=by simp
  rw[ab (by omega),ak,aa (show(1:Int)≤((c::l).length:Int) by omega),aj,yOy hk (by simp at hb⊢;omega) (by simp at bF⊢;omega),ae];by_cases h:(ij (List.drop 1 (c::l))).2=0
  ·rw[aa h,fl (by omega) (by simp),IE];simp only[aA,ak,aj,ae];by_cases h2:((ij (List.drop 1 (c::l))).1.length:Int)=yC (zA ((c::l).getD 0 0))
   ·rw[aa h2,if_neg (fun hh=>hh.elim (fun e=>e h) fun e=>e h2)];simp only[aA,ak,vZf]
   ·rw[ab h2,if_pos (.inr h2)];rfl
  ·rw[ab h,if_pos (.inl h)];rfl
theorem AK (x:Int):yC x≤6:=by
 unfold yC;split
 ·rename_i h;obtain⟨n,rfl⟩:∃n:Nat,x=n:=⟨x.toNat,by omega⟩;have:∀n:Nat,n<24→yD3.getD n 0≤6:=by decide
  exact this n (by omega)
 ·omega
abbrev vB1:Type:=Int×Int×AC×Int×Int
abbrev abi:Type:=Int×List (Int×Int)×Int×Int×Int
abbrev Nc:Type:=Int×List (Int×Int×Int)×EQ×AC×EQ×AC×EQ×List (Int×Int×Int×Int×Int×Int×Int)×AC×Int×Bool
abbrev si:Type:=Int×List (Int×Int)×Int×Int×Int×Int×List (Int×Int×Int)×EQ×AC×EQ×AC×EQ×List (Int×Int×Int×Int×Int×Int×Int)×AC×Int×Bool×Int×Bool
abbrev abj:Type:=Int×Int×Bool×Bool
def d0:vB1:=(0,0,[],0,0)
abbrev dkW (ro:Int)(x:AC)(sx:Int)(y:AC)(sy cA cK op:Int):vQ:=(ro,x,sx,y,sy,cA,cK,false,false,op)
def vF (n:Int)(i:Nat):Int:=IntKind.wrap .u8 (shr .i64 n (8*(i:Int)))
def yA (n:Int):AC:=[vF n 7,vF n 6,vF n 5,vF n 4,vF n 3,vF n 2,vF n 1,vF n 0]
def yD (l:AC):AC:=l.flatMap yA
theorem mM:∀l,(yD l).length=8*l.length
 |[]=>rfl
 |n::l=>by
  have:=mM l;simp[yD] at this⊢;rw[this];simp[yA];omega
theorem vUc {k n} v (i:Nat)(hi:i≤7) aR de bz r (hr:r.length≤1000000000):
  w8 k (n+1) v (i:Int) aR de bz r=w8 k n v ((i:Int)-1) aR de bz (r++[vF v i]):=by
 show Nd k (w8 k n) v (i:Int) aR de bz r=_;unfold Nd;have e8:zA (8*(i:Int))=8*(i:Int):=zN (by omega) (by omega);rw[aa (by simp),aj,e8,ab (by omega),bQ,aj,qJ (by omega) (by omega),aj,zN (by omega) (by omega)];rfl
theorem vYg {k}(hk:9≤k) v aR de bz r (hr:r.length≤100000000):
  w8 k k v 7 aR de bz r=some (aR,de,bz,r++yA v):=by
 have gen:∀m,w8 k (m+9) v 7 aR de bz r=some (aR,de,bz,r++yA v):=fun m=>by
  have h:=fun n i hi r' ot=>vUc (k:=k) (n:=n) v i hi aR de bz r' ot
  have h7:=h (m+8) 7 (by omega) r (by omega);have h6:=h (m+7) 6 (by omega) (r++[vF v 7]) (by grind);have h5:=h (m+6) 5 (by omega) ((r++[vF v 7])++[vF v 6]) (by grind);have h4:=h (m+5) 4 (by omega) (((r++[vF v 7])++[vF v 6])++[vF v 5]) (by grind);have h3:=h (m+4) 3 (by omega) ((((r++[vF v 7])++[vF v 6])++[vF v 5])++[vF v 4]) (by grind);have h2:=h (m+3) 2 (by omega) (((((r++[vF v 7])++[vF v 6])++[vF v 5])++[vF v 4])++[vF v 3]) (by grind);have h1:=h (m+2) 1 (by omega) ((((((r++[vF v 7])++[vF v 6])++[vF v 5])++[vF v 4])++[vF v 3])++[vF v 2]) (by simp;omega);have h0:=h (m+1) 0 (by omega) (((((((r++[vF v 7])++[vF v 6])++[vF v 5])++[vF v 4])++[vF v 3])++[vF v 2])++[vF v 1]) (by simp;omega);refine(h7.trans (h6.trans (h5.trans (h4.trans (h3.trans (h2.trans (h1.trans (h0.trans ?_))))))));show some (aR,de,bz,_)=_;simp only[List.append_assoc,List.cons_append,List.nil_append];rfl
 obtain⟨m,rfl⟩:∃m,k=m+9:=⟨k-9,by omega⟩;exact gen m
theorem yMx {k}(hk:9≤k) l (hl:l.length≤1000000):∀(m n i:Nat),i+m=l.length→m<n→AL k n l (l.length:Int) (i:Int) (yD (l.take i))=some (yD l)
 |0,n,i,hi,hn=>by
  obtain⟨n,rfl⟩:∃x,n=x+1:=⟨n-1,by omega⟩;show DB k (AL k n) l _ _ _=_;unfold DB;simp_all
 |m+1,n,i,hi,hn=>by
  obtain⟨n,rfl⟩:∃x,n=x+1:=⟨n-1,by omega⟩;show DB k (AL k n) l _ _ _=_;unfold DB;have bh:i<l.length:=by omega
  rw[aa (by grind),aj,fl (by omega) (by omega),aj,aq,
   vYg hk _ _ _ _ _ (by rw[mM,List.length_take];omega),ae,qE (N:=l.length) bh (by omega)]
  rw[show yD (l.take i)++yA (l.getD i 0)=yD (l.take (i+1)) by
   rw[←fH l i 0 bh];simp[yD]]
  exact yMx hk l hl m n (i+1) (by omega) (by omega)
theorem IF {k}(hk:9≤k) l (hl:l.length≤1000000)(tq:l.length<k):w9 k l=some (yD l):=by
 unfold w9;have h8:zA (8*(l.length:Int))=((8*l.length:Nat):Int):=by rw[zN (by omega) (by omega)];omega
 rw[h8];have hm:rP 0 ((8*l.length:Nat):Int) 1=true:=by
  grind
 rw[hm,aj];have:=yMx hk l hl l.length k 0 (by omega) tq;show(AL k k l (l.length:Int) ((0:Nat):Int) (yD (l.take 0))).bind _=_;simp_all
def wL (l:AC):AC:=yA (l.length:Int)++yD l
theorem vRy {k}(hk:9≤k) l (hl:l.length≤1000000)(tq:l.length<k):Nf k l=some (wL l):=by
 unfold Nf;rw[IF hk [(l.length:Int)] (by simp) (by grind),ae,IF hk l hl tq,ae];rw[qJ (by rw[mM,mM];grind) (by rw[mM,mM];grind)];rfl
def wD (b:AC):AC:=[IntKind.wrap .u8 (shr .i64 (b.length:Int) 8),IntKind.wrap .u8 (b.length:Int)]++b
theorem yPg k b:IG k b=some (if b.length≤60000 then(wD b,true) else([],false)):=by
 unfold IG;by_cases h:b.length≤60000
 ·rw[ab (by omega),ak,qJ (by omega) (by omega),if_pos h];rfl
 grind
theorem yJ1 (x:Nat)(hx:x<18446744073709551616):(BitVec.ofInt 64 (x:Int)).toNat=x:=by
 rw[BitVec.ofInt_natCast,BitVec.toNat_ofNat];exact Nat.mod_eq_of_lt hx
theorem yQj (a c:Nat)(hc:c<256)(ha:a*256+c<18446744073709551616):(BitVec.ofInt 64 ((a*256:Nat):Int)|||BitVec.ofInt 64 (c:Int)).toNat=a*256+c:=by
 rw[BitVec.toNat_or,yJ1 _ (by omega),yJ1 _ (by omega)];have:=Nat.two_pow_add_eq_or_of_lt (b:=c) (i:=8) hc a;rw[show(2:Nat)^8*a=a*256 by omega] at this;exact this.symm
theorem IH (x:Int):IntKind.wrap .u8 x=x%256:=by
 unfold IntKind.wrap;simp[IntKind.bits,IntKind.signed]
theorem DC (x:Int):IntKind.wrap .u64 x=x%18446744073709551616:=by
 unfold IntKind.wrap;simp[IntKind.bits,IntKind.signed]
theorem vOk {s c:Int}(hs:0≤s)(hc:0≤c∧c<256):sf s c=(s*256+c)%18446744073709551616:=by
 unfold sf;have e1:shl .u64 s 8=(s*256)%18446744073709551616:=DC _;rw[e1,DC c];obtain⟨a,ha⟩:∃a:Nat,s%72057594037927936=a:=⟨(s%72057594037927936).toNat,by omega⟩;obtain⟨d,rfl⟩:∃d:Nat,c=d:=⟨c.toNat,by omega⟩;have e2:(s*256)%18446744073709551616=((a*256:Nat):Int):=by omega
 have e3:(d:Int)%18446744073709551616=(d:Int):=by omega
 rw[e2,e3];show IntKind.wrap .u64 (((BitVec.ofInt 64 ((a*256:Nat):Int)|||BitVec.ofInt 64 (d:Int)).toNat:Nat):Int)=_;rw[yQj a d (by omega) (by omega),DC];omega
theorem yXr (n:Int)(i:Nat)(hi:i≤7):vF n i=(n/2^(8*i))%256:=by
 unfold vF;rw[IH]
 congr 1
 show n.fdiv (2^(min (8*(i:Int)).toNat 64))=_;rw[show min (8*(i:Int)).toNat 64=8*i by omega];exact Int.fdiv_eq_ediv_of_nonneg _ (Int.le_of_lt (Int.pow_pos (by decide)))
theorem vNq {n:Int}(h1:-9223372036854775808≤n)(h2:n<9223372036854775808):Dv (yA n)=n:=by
 have o:=fun i (hi:i≤7)=>yXr n i hi
 have b:∀i,i≤7→0≤vF n i∧vF n i<256:=fun i hi=>by rw[o i hi];omega
 have p:∀s:Int,0≤s→∀i,i≤7→sf s (vF n i)=(s*256+vF n i)%18446744073709551616:=fun s hs i hi=>vOk hs (b i hi)
 unfold Dv yA;simp only[List.foldl_cons,List.foldl_nil];rw[p 0 (by omega) 7 (by omega),p _ (by omega) 6 (by omega),p _ (by omega) 5 (by omega),p _ (by omega) 4 (by omega),p _ (by omega) 3 (by omega),p _ (by omega) 2 (by omega),p _ (by omega) 1 (by omega),p _ (by omega) 0 (by omega)];rw[o 7 (by omega),o 6 (by omega),o 5 (by omega),o 4 (by omega),o 3 (by omega),o 2 (by omega),o 1 (by omega),o 0 (by omega)];simp only[Nat.reduceMul,Int.reducePow];unfold zA IntKind.wrap;simp only[IntKind.bits,IntKind.signed,Bool.true_and];simp;split<;>omega
def qY (l:EQ):AC:=l.flatMap wL
theorem mN l:(wL l).length=8*(l.length+1):=by
 simp[wL,mM];show 8+_=_;omega
theorem vLg {l:EQ}{i}(h:i<l.length):qY (l.take i)++wL (l.getD i [])=qY (l.take (i+1)):=by
 rw[←fH l i [] h];simp[qY]
structure jZ (l:EQ):Prop where
 n:l.length≤900
 r:∀x∈l,x.length≤900
theorem vWb {l}(h:∀x∈l,x.length≤900):(qY l).length≤8000*l.length:=by
 induction l with
 |nil=>simp[qY]
 |cons x l ih=>
  have h1:=ih (by grind);have h2:=h x (by simp);simp[qY,mN] at h1⊢;omega
theorem vOj {k}(hk:1000≤k){l}(h:jZ l):II k l=some (qY l):=by
 have hn:=h.n;unfold II;obtain ⟨s, h1, h2⟩ := vJ (L := fun n i (s : AC) => DD k n l (l.length : Int) i s) (N := l.length) (fun s => s) (fun i s => s = qY (l.take i)) (fun n s _=>by
  show DE k (DD k n) l _ _ s=_;unfold DE;simp) (fun n i s hi hs=>by
  refine⟨s++wL (l.getD i []),?_,by rw[hs,vLg hi]⟩;show DE k (DD k n) l _ (i:Int) s=_;unfold DE;have hr:=h.r _ (gh (d:=[]) hi);have rK:s.length≤8000*1000:=by
   have:=vWb (l:=l.take i) fun x hx=>h.r x (by grind)
   grind
  rw[aa (by grind),aj,fl (by omega) (by omega),aj,aq,vRy (by omega) _ (by omega) (by omega),ae,
   qJ (by rw[mN];omega) (by rw[mN];omega),aj,qE (N:=l.length) hi (by omega)]) (n:=k) (s:=[]) (by omega) rfl
 simp_all
def jw (a:Int×Int×Int):AC:=[a.1,a.2.1,a.2.2]
def gi (p:Int×Int×Int×Int×Int×Int×Int):AC:=[p.1,p.2.1,p.2.2.1,p.2.2.2.1,p.2.2.2.2.1,p.2.2.2.2.2.1,p.2.2.2.2.2.2]
def gj (s:Nc):EQ:=
 (((((([[s.1,s.2.2.2.2.2.2.2.2.2.1,bif s.2.2.2.2.2.2.2.2.2.2 then 1 else 0,(s.2.1.length:Int),(s.2.2.1.length:Int),(s.2.2.2.1.length:Int),(s.2.2.2.2.1.length:Int),(s.2.2.2.2.2.2.1.length:Int),(s.2.2.2.2.2.2.2.1.length:Int)]]++
  s.2.1.map jw)++s.2.2.1)++[s.2.2.2.1])++s.2.2.2.2.1)++[s.2.2.2.2.2.1])++s.2.2.2.2.2.2.1)++s.2.2.2.2.2.2.2.1.map gi++[s.2.2.2.2.2.2.2.2.1]
theorem yTx {α β:Type}(f:α→β) d {l:List α}{i}(h:i<l.length):(l.take i).map f++[f (l.getD i d)]=(l.take (i+1)).map f:=by
 rw[←fH l i d h];simp
theorem vL5 {k}{l:List (Int×Int×Int)}(hl:l.length≤900)(hk:1000≤k)(s:Nc)(b) r (hr:r.length≤1000000):AM k k l (l.length:Int) 0 s b r=some (s,b,r++l.map jw):=by
 obtain ⟨t, h1, h2⟩ := vJ (L := fun n i (t : EQ) => AM k n l (l.length : Int) i s b t) (N := l.length) (fun t => (s, b, t)) (fun i t => t = r ++ (l.take i).map jw) (fun n t _=>by
  show DF k (AM k n) l _ _ s b t=_;unfold DF;simp) (fun n i t hi ht=>by
  refine⟨t++[jw (l.getD i (0,0,0))],?_,by rw[ht,List.append_assoc,yTx jw (0,0,0) hi]⟩;show DF k (AM k n) l _ (i:Int) s b t=_;unfold DF;have:t.length≤1001000:=by grind
  rw[aa (by grind),aj,fl (by omega) (by omega),aj,qJ (by omega) (by omega),aj,qE (N:=l.length) hi (by omega)];rfl) (n:=k) (s:=r) (by omega) (by simp)
 simp_all
theorem vMp {k}{l:List (Int×Int×Int×Int×Int×Int×Int)}(hl:l.length≤900)(hk:1000≤k)(s:Nc) r (hr:r.length≤1000000):AN k k l (l.length:Int) 0 s r=some (s,r++l.map gi):=by
 obtain ⟨t, h1, h2⟩ := vJ (L := fun n i (t : EQ) => AN k n l (l.length : Int) i s t) (N := l.length) (fun t => (s, t)) (fun i t => t = r ++ (l.take i).map gi) (fun n t _=>by
  show DG k (AN k n) l _ _ s t=_;unfold DG;simp) (fun n i t hi ht=>by
  refine⟨t++[gi (l.getD i (0,0,0,0,0,0,0))],?_,by rw[ht,List.append_assoc,yTx gi (0,0,0,0,0,0,0) hi]⟩;show DG k (AN k n) l _ (i:Int) s t=_;unfold DG;have:t.length≤1001000:=by grind
  rw[aa (by grind),aj,fl (by omega) (by omega),aj,qJ (by omega) (by omega),aj,qE (N:=l.length) hi (by omega)];rfl) (n:=k) (s:=r) (by omega) (by simp)
 simp_all
theorem vA7 {k}(hk:1000≤k){s}(h:jZ (gj s)):lV k s=some (qY (gj s)):=by
 have hn:=h.n;simp only[gj,List.length_append,List.length_map] at hn;unfold lV;rw[show Ng k s.2.2.2.2.2.2.2.2.2.2=some (bif s.2.2.2.2.2.2.2.2.2.2 then 1 else 0) by unfold Ng;grind,ae];rw[vL5 (by omega) hk _ _ _ (by simp),ae];dsimp only;rw[qJ (by grind) (by grind),aj,qJ (by grind) (by grind),aj,qJ (by simp;omega) (by grind),aj,qJ (by simp;omega) (by simp;omega),aj,
  qJ (by simp;omega) (by simp;omega),aj,vMp (by omega) hk _ _ (by simp;omega),ae]
 dsimp only;rw[qJ (by simp;omega) (by simp;omega),aj];show(II k (gj s)).bind (fun x1=>some x1)=_;rw[vOj hk h];rfl
structure Uf (D:vQ):Prop where
 aa6:D.2.2.2.2.2.2.2.1=false
 down:D.2.2.2.2.2.2.2.2.1=false
 room:0≤D.1∧D.1≤200000
 x:(D.2.1.length:Int)≤D.1
 y:(D.2.2.2.1.length:Int)≤D.1
def yU (D:vQ)(i:Int):AC:=if i=0 then D.2.1 else D.2.2.2.1
theorem Uf.as {D}(h:Uf D):∃ro x sx y sy cA cK op,D=dkW ro x sx y sy cA cK op∧0≤ro∧ro≤200000∧(x.length:Int)≤ro∧(y.length:Int)≤ro:=by
 obtain⟨ro,x,sx,y,sy,cA,cK,ar,dn,op⟩:=D;obtain⟨h1,h2,h3,h4,h5⟩:=h;subst h1;subst h2;grind
structure abk (L:gT):Prop where
 side:L.1=0∨L.1=1
 gen:1≤L.2.1∧L.2.1≤4611686018427387904
 rows:0≤L.2.2.1∧L.2.2.1≤1000000
 stale:L.2.2.2=false
theorem tZ b:(wD b).length=b.length+2:=by rfl
def jx (l:AC):Prop:=∀x∈l,-9223372036854775808≤x∧x<9223372036854775808
theorem yIn:∀{l},jx l→w7 l.length (yD l)=l
 |[],_=>rfl
 |n::l,h=>by
  have h1:=h n (by simp);have e:yD (n::l)=yA n++yD l:=by rfl
  show Dv ((yA n++yD l).take 8)::w7 l.length ((yA n++yD l).drop 8)=_;have t:(yA n++yD l).take 8=yA n:=rfl;have d:(yA n++yD l).drop 8=yD l:=rfl;rw[t,d,vNq h1.1 h1.2,yIn fun x hx=>h x (by grind)]
theorem Ug {l}(h:jx l):ij (yD l)=(l,0):=by
 unfold ij;have:=mM l;rw[if_pos (by omega),show(yD l).length/8=l.length by omega,yIn h]
theorem yXw {k}(hk:9≤k){l}(hl:l.length<k)(hm:l.length≤1000000)(h:jx l):sg k (yD l)=some (l,0):=by
 have:=mM l;rw[yOy hk (by omega) (by omega),Ug h]
theorem Uh {k}(hk:9≤k){n}(h:-9223372036854775808≤n∧n<9223372036854775808):sg k (yA n)=some ([n],0):=by
 have e:yA n=yD [n]:=by rfl
 rw[e];exact yXw hk (by grind) (by simp) fun x hx=>by simp_all
theorem Ui {k}(hk:9≤k){l}(hl:l.length<k)(hm:l.length≤100000)(h:jx l) b (hb:b.length≤1000000):Nh k (wL l++b)=some (l,b,true):=by
 have pF:=mM l;have hlen:(wL l++b).length=8+8*l.length+b.length:=by
  rw[List.length_append,wL,List.length_append,pF];rfl
 have t:(wL l++b).take 8=yA (l.length:Int):=rfl;have d:(wL l++b).drop 8=yD l++b:=rfl;unfold Nh;rw[ab (by omega),ak,aa (by omega),aj,t,Uh hk (by omega),ae,d];have oL:(yD l++b).length=8*l.length+b.length:=by simp_all
 have w1:zA (Int.tdiv ((yD l++b).length:Int) 8)=((l.length+b.length/8:Nat):Int):=by
  rw[oL];have:Int.tdiv ((8*l.length+b.length:Nat):Int) 8=(((8*l.length+b.length)/8:Nat):Int):=rfl;rw[this,zN (by omega) (by omega)];omega
 have w2:zA (8*(l.length:Int))=((8*l.length:Nat):Int):=by rw[zN (by omega) (by omega)];omega
 have bd:zB 0 [(l.length:Int)].length=true:=rfl;simp only[List.getD_cons_zero];rw[ab (by simp),w1,w2,ab (by grind),aa (by grind),
  aa (by grind),aq,show List.take (8*l.length) (yD l++b)=yD l from by grind,show List.drop (8*l.length) (yD l++b)=b from by grind]
 rw[yXw hk hl (by omega) h];rfl
def AO (b:AC):Int:=wG .i64 (shl .i64 (zA (b.getD 0 0)) 8) (zA (b.getD 1 0))
def Cut (b:AC):Prop:=b.length<2∨AO b>60000∨AO b>(b.length:Int)-2
def jG (l:EQ):AC:=l.flatMap wD
theorem yZ5 {r}(hr:r.length≤60000){b}(h0:b.getD 0 0=(wD r).getD 0 0)(h1:b.getD 1 0=(wD r).getD 1 0):AO b=(r.length:Int):=by
 unfold AO;rw[h0,h1];have e0:(wD r).getD 0 0=((r.length/256:Nat):Int):=by
  show IntKind.wrap .u8 (shr .i64 (r.length:Int) 8)=_;rw[IH];have:shr .i64 (r.length:Int) 8=((r.length/256:Nat):Int):=by
   show(r.length:Int).fdiv (2^8)=_;grind
  omega
 have e1:(wD r).getD 1 0=((r.length%256:Nat):Int):=by
  rfl
 rw[e0,e1,zN (by omega) (by omega),zN (by omega) (by omega)];have e2:shl .i64 ((r.length/256:Nat):Int) 8=((r.length/256*256:Nat):Int):=by
  show zA (((r.length/256:Nat):Int)*2^8)=_;exact zN (by omega) (by omega)
 rw[e2];show IntKind.wrap .i64 (((BitVec.ofInt 64 ((r.length/256*256:Nat):Int)|||BitVec.ofInt 64 ((r.length%256:Nat):Int)).toNat:Nat):Int)=_;rw[yQj _ _ (by omega) (by omega)];have:=zN (x:=((r.length/256*256+r.length%256:Nat):Int)) (by omega) (by omega);grind
theorem yFv {r:AC}(hr:r.length≤60000){j:Nat}(hj:j<r.length+2):Cut ((wD r).take j):=by
 have hl:=tZ r;by_cases h:j<2
 ·left;rw[List.length_take];omega
 ·right;right;have g:∀i,i<2→((wD r).take j).getD i 0=(wD r).getD i 0:=fun i hi=>by
   rw[List.getD_eq_getElem?_getD,List.getD_eq_getElem?_getD,List.getElem?_take_of_lt (by omega)]
  rw[yZ5 hr (g 0 (by omega)) (g 1 (by omega)),List.length_take];omega
theorem DH:Cut []:=.inl (by decide)
theorem qZ2 {k:Nat}{t:AC}(ht:Cut t)(ph:t.length≤1000000):∀(l:EQ) (n:Nat) (r:EQ),(∀x∈l,x.length≤60000)→l.length<n→(jG l).length≤1000000→r.length+l.length≤1000000→DI k n (jG l++t) r=some (t,r++l)
 |[],n,r,_,hn,_,_=>by
  obtain⟨n,rfl⟩:∃m,n=m+1:=⟨n-1,by omega⟩;rw[List.append_nil];show DJ k (DI k n) t r=_;unfold DJ;by_cases h2:t.length<2
  ·rw[ab (by omega)];rfl
  ·rw[aa (by omega),fl (by omega) (by omega),fl (by omega) (by omega)];simp only[aj];have e:wG .i64 (shl .i64 (zA (t.getD 0 0)) 8) (zA (t.getD 1 0))=AO t:=rfl;rw[e,zN (x:=(t.length:Int)-2) (by omega) (by omega)];by_cases h3:AO t>60000
   ·rw[aa h3];rfl
   ·rw[ab h3,aa (show AO t>(t.length:Int)-2 by rcases ht with h|h|h;exact absurd h h2;exact absurd h h3;exact h)];rfl
 |x::l,n,r,hl,hn,hb,hr=>by
  obtain⟨n,rfl⟩:∃m,n=m+1:=⟨n-1,by omega⟩;have hx:=hl x (List.mem_cons_self ..);have ex:jG (x::l)=wD x++jG l:=by simp[jG]
  have rz:=tZ x;rw[ex,List.length_append] at hb;have ih:=qZ2 (k:=k) ht ph l n (r++[x]) (fun y hy=>hl y (List.mem_cons_of_mem _ hy)) (by simp at hn;omega) (by omega) (by rw[List.length_append];simp at hr⊢;omega);rw[ex,List.append_assoc];obtain⟨B,hB⟩:∃B,jG l++t=B:=⟨_,rfl⟩;rw[hB] at ih⊢;have hBl:B.length≤2000000:=by rw[←hB,List.length_append];omega
  have hlen:(wD x++B).length=x.length+2+B.length:=by rw[List.length_append,rz]
  show DJ k (DI k n) (wD x++B) r=_;unfold DJ;rw[aa (by omega),fl (by omega) (by omega),fl (by omega) (by omega)];simp only[aj];have e:wG .i64 (shl .i64 (zA ((wD x++B).getD 0 0)) 8) (zA ((wD x++B).getD 1 0))=(x.length:Int):=yZ5 hx rfl rfl;have hs:qR (wD x++B) 2 (x.length+2-2)=x:=by
   unfold qR;show List.take (x.length+2-2) (x++B)=x;exact List.take_left' (by omega)
  have hd:List.drop (x.length+2) (wD x++B)=B:=List.drop_left' rz;have w2:zA (2+(x.length:Int))=((x.length+2:Nat):Int):=by rw[zN (by omega) (by omega)];omega
  rw[e,w2,zN (x:=((wD x++B).length:Int)-2) (by omega) (by omega),ab (show¬(x.length:Int)>60000 by omega),ab (show¬(x.length:Int)>((wD x++B).length:Int)-2 by omega),aq,hs,hd,
   aa (show(2:Int)≤((x.length+2:Nat):Int) by omega),aa (show(0:Int)≤((x.length+2:Nat):Int) by omega),aa (show((x.length+2:Nat):Int)≤((wD x++B).length:Int) by omega),qJ (by omega) (by omega),qJ (by simp at hr;omega) (by simp at hr;omega)]
  simp only[ak,Bool.and_self,aj];rw[ih,List.append_assoc];rfl
theorem yFo {k t}(ht:Cut t)(ph:t.length≤1000000){l}(hl:∀x∈l,x.length≤60000)(hn:l.length<k)(hm:l.length≤1000000)(hb:(jG l).length≤1000000):Ni k (jG l++t)=some (l,(t.length:Int)):=by
 unfold Ni;rw[qZ2 ht ph l k [] hl hn hb (by simp_all)];rfl
abbrev qX:=Int×Int×Int
abbrev zH:=Int×Int×Int×Int×Int×Int×Int
def jY (a:qX):Bool:=decide (a.1>-4611686018427387904)&&(decide (a.1<4611686018427387904)&&(decide (a.2.1≥0)&&(decide (a.2.1≤2305843009213693952)&&(decide (a.2.2≥0)&&decide (a.2.2≤2305843009213693952)))))
def wN (n:Int):Bool:=decide (n≥-1)&&decide (n≤2305843009213693952)
def gF (n:Int):Bool:=decide (n>-72057594037927936)&&decide (n<72057594037927936)
def cell (m:EQ)(i j:Nat):Int:=(m.getD i []).getD j 0
def mO (n:Nat)(m:EQ):Bool:=decide (m.length=n)&&qF (fun i=>decide ((m.getD i []).length=n)) n 0
def pG (p:Int→Bool)(n:Nat)(m:EQ):Bool:=qF (fun i=>qF (fun j=>p (cell m i j)) n 0) n 0
def xa (n:Nat)(m:EQ):Bool:=qF (fun i=>qF (fun j=>decide (cell m i j=zA (0-cell m j i))) n 0) n 0
def mP (xc:List qX)(bil:EQ)(mul:AC)(pos:EQ):Bool:=
 let n:=xc.length
 decide (1≤n)&&(decide (n≤6)&&(mO n bil&&(mO n pos&&(decide (mul.length=n)&&(qF (fun i=>jY (xc.getD i (0,0,0))) n 0&&(qF (fun i=>wN (mul.getD i 0)) n 0&&(pG wN n bil&&(pG gF n pos&&xa n pos))))))))
theorem Uj k b c r:IJ k b c r=some (jY (b,c,r)):=by
 unfold IJ jY;grind
theorem yM1 k b c r:Nj k b c r=some (jY (b,c,r)):=Uj k b c r
theorem Uk k n:IK k n=some (wN n):=by
 unfold IK wN;grind
theorem vNj k n:qOp k n=some (wN n):=Uk k n
theorem vOh k n:Nk k n=some (gF n):=by
 unfold Nk gF;grind
theorem qZ0 {k:Nat}{n:Nat}(hk:n<k)(hn:n≤1000)(m:EQ):IL k m n=some (mO n m):=by
 unfold IL mO;simp only[sd];by_cases h:m.length=n
 ·have := lT (L := fun c i => IM k c m n i) (N := n) (fun i => decide ((m.getD i []).length = n)) (.inl ()) (.inr false) (fun c=>by
    show DK k _ m n n=_;unfold DK;simp only [qP, ab (Nat.lt_irrefl n), ak]) (fun c i hi=>by
    show DK k _ m n i=_;unfold DK;simp only[qB,qE hi (by omega),qP,sd,aq,h,aa hi,aj];cases decide ((m.getD i []).length=n)<;>rfl) hk
  simp only[h,decide_true,aA,ak,Bool.true_and];rw[this];generalize qF _ _ _=r;cases r<;>rfl
 ·simp only[ab h,bQ,aj,Bool.false_and]
theorem vLs {k:Nat}{N i:Nat}(hk:N<k)(hN:N≤1000)(hi:i<N){a:List qX}{b p:EQ}{m:AC}(hb:b.length=N)(hp:p.length=N)(Ul:∀j,j<N→(b.getD j []).length=N)(pH:∀j,j<N→(p.getD j []).length=N):
  DL k k N i 0 a b m p=some (bif qF (fun j=>wN (cell b i j)&&(gF (cell p i j)&&decide (cell p i j=zA (0-cell p j i)))) N 0 then .inl ((N:Int),(i:Int),a,b,m,p) else .inr false):=by
 refine lT (L:=fun c j=>DL k c N i j a b m p) (N:=N) _ (.inl ((N:Int),(i:Int),a,b,m,p)) (.inr false) (fun c=>?_) (fun c j hj=>?_) hk
 ·show DM k _ N i N a b m p=_;unfold DM;simp only[qP,ab (Nat.lt_irrefl N),ak]
 ·show DM k _ N i j a b m p=_;unfold DM;simp only[qB,qE hj (by omega),qP,aq,hb,hp,Ul i hi,pH i hi,pH j hj,aa hj,aa hi,aj,Uk,ae,gF];show(bif !wN (cell b i j) then _ else bif decide (cell p i j≤_) then _ else bif decide (cell p i j≥_) then _ else bif !decide (cell p i j=_) then _ else _)=_;have e1:decide (cell p i j≤-72057594037927936)= !decide (cell p i j>-72057594037927936):=by
   by_cases h:cell p i j≤-72057594037927936
   ·rw[aa h,ab (by omega)];rfl
   ·rw[ab h,aa (by omega)];rfl
  have e2:decide (cell p i j≥72057594037927936)= !decide (cell p i j<72057594037927936):=by
   by_cases h:cell p i j≥72057594037927936
   ·rw[aa h,ab (by omega)];rfl
   ·rw[ab h,aa (by omega)];rfl
  rw[e1,e2];show(bif !wN (cell b i j) then _ else bif _ then _ else bif _ then _ else bif !decide (cell p i j=zA (0-cell p j i)) then _ else _)=_;cases wN (cell b i j)<;>cases decide (cell p i j>-72057594037927936)<;>cases decide (cell p i j<72057594037927936)<;>cases decide (cell p i j=zA (0-cell p j i))<;>rfl
theorem vCw {k:Nat}{N:Nat}(hk:N<k)(hN:N≤1000){a:List qX}{b p:EQ}{m:AC}(ha:a.length=N)(hm:m.length=N)(hb:b.length=N)(hp:p.length=N)(Ul:∀j,j<N→(b.getD j []).length=N)(pH:∀j,j<N→(p.getD j []).length=N):
  DN k k N 0 a b m p=some (bif qF (fun i=>jY (a.getD i (0,0,0))&&(wN (m.getD i 0)&&qF (fun j=>wN (cell b i j)&&(gF (cell p i j)&&decide (cell p i j=zA (0-cell p j i)))) N 0)) N 0 then .inl () else .inr false):=by
 refine lT (L:=fun c j=>DN k c N j a b m p) (N:=N) _ (.inl ()) (.inr false) (fun c=>?_) (fun c i hi=>?_) hk
 ·show DO k _ N N a b m p=_;unfold DO;simp only[qP,ab (Nat.lt_irrefl N),ak]
 ·show DO k _ N i a b m p=_;unfold DO;simp only[qB,qP,aq,ha,hm,aa hi,aj,Uk,Uj,ae,vLs hk hN hi hb hp Ul pH];generalize qF _ N 0=r;show(bif !jY (a.getD i (0,0,0)) then _ else _)=_;cases jY (a.getD i (0,0,0))<;>cases wN (m.getD i 0)<;>cases r<;>simp only[aA,bQ,aj,ak,Bool.and_true,Bool.and_false,Bool.true_and,Bool.false_and,qE hi (show N<9223372036854775808 by omega)]
theorem Um {k:Nat}(hk:10<k)(a:List qX)(b:EQ)(m:AC)(p:EQ):Nl k a b m p=some (mP a b m p):=by
 unfold Nl;have l1:decide ((a.length:Int)<1)= !decide (1≤a.length):=by
  by_cases h:1≤a.length
  ·rw[aa h,ab (by omega)];rfl
  ·rw[ab h,aa (by omega)];rfl
 have l2:decide ((a.length:Int)>6)= !decide (a.length≤6):=by
  by_cases h:a.length≤6
  ·rw[aa h,ab (by omega)];rfl
  ·rw[ab h,aa (by omega)];rfl
 rw[l1,l2];unfold mP;dsimp only;by_cases h1:1≤a.length
 case neg=>rw[ab h1];rfl
 by_cases h2:a.length≤6
 case neg=>rw[aa h1,ab h2];rfl
 rw[aa h1,aa h2];simp only[aA,ak,Bool.true_and];rw[qZ0 (by omega) (by omega),qZ0 (by omega) (by omega)];simp only[ae,sd];cases hb:mO a.length b with
 |false=>rfl
 |true=>
  cases hp:mO a.length p with
  |false=>rfl
  |true=>
   by_cases hm:m.length=a.length
   case neg=>simp only[ab hm];rfl
   simp only[mO,ba,aX,gg] at hb hp;simp only[hm,decide_true,aA,ak,Bool.true_and];rw[vCw (by omega) (by omega) rfl hm hb.1 hp.1 hb.2 hp.2];have e:(qF (fun i=>jY (a.getD i (0,0,0))) a.length 0&&(qF (fun i=>wN (m.getD i 0)) a.length 0&&(pG wN a.length b&&(pG gF a.length p&&xa a.length p))))=
     qF (fun i=>jY (a.getD i (0,0,0))&&(wN (m.getD i 0)&&qF (fun j=>wN (cell b i j)&&(gF (cell p i j)&&decide (cell p i j=zA (0-cell p j i)))) a.length 0)) a.length 0:=by
    rw[Bool.eq_iff_iff];simp only[pG,xa,ba,gg];constructor
    ·rintro⟨h1,h2,h3,h4,h5⟩ i hi
     exact⟨h1 i hi,h2 i hi,fun j hj=>⟨h3 i hi j hj,h4 i hi j hj,h5 i hi j hj⟩⟩
    ·intro h;exact⟨fun i hi=>(h i hi).1,fun i hi=>(h i hi).2.1,fun i hi j hj=>((h i hi).2.2 j hj).1,fun i hi j hj=>((h i hi).2.2 j hj).2.1,fun i hi j hj=>((h i hi).2.2 j hj).2.2⟩
   rw[e];generalize qF _ _ _=r;cases r<;>rfl
theorem vDn {k}{a:List qX}(hk:a.length<k)(hl:a.length<9223372036854775808):Nm k a=some (!qF (fun i=>jY (a.getD i (0,0,0))) a.length 0):=by
 obtain ⟨x, h1, h2⟩ := wy (L := fun c i => IN k c a a.length i) (N := a.length) (fun i => !jY (a.getD i (0, 0, 0))) (fun c=>by
  show DP k _ a a.length a.length=_;unfold DP;simp) (fun c i hi=>by
  show DP k _ a a.length i=_;unfold DP Un;simp[qB,qE hi hl,aa hi,yM1]) hk
 unfold Nm Uo;grind
theorem vD6 {k a}(hk:a.length<k)(hl:a.length<9223372036854775808):Nn k a=some (!qF (fun i=>wN (a.getD i 0)) a.length 0):=by
 obtain ⟨x, h1, h2⟩ := wy (L := fun c i => IP k c a a.length i) (N := a.length) (fun i => !wN (a.getD i 0)) (fun c=>by
  show DQ k _ a a.length a.length=_;unfold DQ;simp) (fun c i hi=>by
  show DQ k _ a a.length i=_;unfold DQ Uq;simp[qB,qE hi hl,aa hi,vNj]) hk
 unfold Nn Ur;grind
theorem vIp {k a}(hk:a.length<k)(hl:a.length<9223372036854775808):No k a=some (!qF (fun i=>gF (a.getD i 0)) a.length 0):=by
 obtain ⟨x, h1, h2⟩ := wy (L := fun c i => IQ k c a a.length i) (N := a.length) (fun i => !gF (a.getD i 0)) (fun c=>by
  show DR k _ a a.length a.length=_;unfold DR;simp) (fun c i hi=>by
  show DR k _ a a.length i=_;unfold DR Us;simp[qB,qE hi hl,aa hi,vOh]) hk
 unfold No Ut;grind
theorem yLj {k n:Nat}(hk:n<k)(hn:n≤1000)(a:AC):IS k a n=some (decide (a.length=n)&&qF (fun i=>wN (a.getD i 0)) n 0):=by
 unfold IS;simp only[sd];by_cases h:a.length=n
 ·rw[vD6 (by omega) (by omega)];simp only[h,decide_true,aj,ae,Bool.not_not,Bool.true_and]
 ·simp only[ab h,ak,Bool.false_and]
theorem vJw {k n:Nat}(hk:n<k)(hn:n≤1000)(a:AC):Np k a n=some (decide (a.length=n)&&qF (fun i=>gF (a.getD i 0)) n 0):=by
 unfold Np;simp only[sd];by_cases h:a.length=n
 ·rw[vIp (by omega) (by omega)];simp only[h,decide_true,aj,ae,Bool.not_not,Bool.true_and]
 ·simp only[ab h,ak,Bool.false_and]
theorem vFl {k n:Nat}(hk:n<k)(hn:n≤1000)(m:EQ):Nq k m n=some (decide (m.length=n)&&qF (fun i=>decide ((m.getD i []).length=n)&&qF (fun j=>wN (cell m i j)) n 0) n 0):=by
 unfold Nq;simp only[sd];by_cases h:m.length=n
 ·have := lT (L := fun c i => IT k c n m n i) (N := n) (fun i => decide ((m.getD i []).length = n) && qF (fun j => wN (cell m i j)) n 0) (.inl ()) (.inr false) (fun c=>by
    show DS k _ n m n n=_;unfold DS;simp only [qP, ab (Nat.lt_irrefl n), ak]) (fun c i hi=>by
    show DS k _ n m n i=_;unfold DS;simp only[qB,qE hi (by omega),qP,aq,h,aa hi,aj,yLj hk hn,ae];show(bif !(decide ((m.getD i []).length=n)&&qF (fun j=>wN (cell m i j)) n 0) then _ else _)=_;generalize (decide ((m.getD i []).length=n)&&qF (fun j=>wN (cell m i j)) n 0)=r;cases r<;>rfl) hk
  simp only[h,decide_true,aA,ak,Bool.true_and];rw[this];generalize qF _ _ _=r;cases r<;>rfl
 ·simp only[ab h,bQ,aj,Bool.false_and]
theorem vNr {k n:Nat}(hk:n<k)(hn:n≤1000)(m:EQ):Nr k m n=some (decide (m.length=n)&&qF (fun i=>decide ((m.getD i []).length=n)&&qF (fun j=>gF (cell m i j)) n 0) n 0):=by
 unfold Nr;simp only[sd];by_cases h:m.length=n
 ·have := lT (L := fun c i => IU k c n m n i) (N := n) (fun i => decide ((m.getD i []).length = n) && qF (fun j => gF (cell m i j)) n 0) (.inl ()) (.inr false) (fun c=>by
    show DT k _ n m n n=_;unfold DT;simp only [qP, ab (Nat.lt_irrefl n), ak]) (fun c i hi=>by
    show DT k _ n m n i=_;unfold DT;simp only[qB,qE hi (by omega),qP,aq,h,aa hi,aj,vJw hk hn,ae];show(bif !(decide ((m.getD i []).length=n)&&qF (fun j=>gF (cell m i j)) n 0) then _ else _)=_;generalize (decide ((m.getD i []).length=n)&&qF (fun j=>gF (cell m i j)) n 0)=r;cases r<;>rfl) hk
  simp only[h,decide_true,aA,ak,Bool.true_and];rw[this];generalize qF _ _ _=r;cases r<;>rfl
 ·simp only[ab h,bQ,aj,Bool.false_and]
theorem Uu {k N i:Nat}(hk:N<k)(hN:N≤1000)(hi:i<N){p q:EQ}{u:Int}(hp:p.length=N)(pH:∀j,j<N→(p.getD j []).length=N):
  DU k k p i q u i (p.getD i []) N 0=some (bif qF (fun j=>decide (cell p j i=zA (0-cell p i j))) N 0 then .inl (p,q,u,(i:Int)) else .inr false):=by
 refine lT (L:=fun c j=>DU k c p i q u i (p.getD i []) N j) (N:=N) _ (.inl (p,q,u,(i:Int))) (.inr false) (fun c=>?_) (fun c j hj=>?_) hk
 ·show DV k _ p i q u i (p.getD i []) N N=_;unfold DV;simp only[qP,ab (Nat.lt_irrefl N),ak]
 ·show DV k _ p i q u i (p.getD i []) N j=_;unfold DV;simp only[qB,qE hj (show N<9223372036854775808 by omega),qP,aq,hp,pH i hi,pH j hj,aa hj,aa hi,aj];show(bif !decide (cell p j i=zA (0-cell p i j)) then _ else _)=_;generalize decide (cell p j i=zA (0-cell p i j))=r;cases r<;>rfl
theorem vN8 {k N}(hk:N<k)(hN:N≤1000){p}(hp:p.length=N)(pH:∀j,j<N→(p.getD j []).length=N):
  Ns k p=some (xa N p):=by
 have := lT (L := fun c i => IV k c p p N i) (N := N) (fun i => qF (fun j => decide (cell p j i = zA (0 - cell p i j))) N 0) (.inl ()) (.inr false) (fun c=>by
   show DW k _ p p N N=_;unfold DW;simp) (fun c i hi=>by
   show DW k _ p p N i=_;unfold DW;simp only[qB,qP,aq,hp,pH i hi,aa hi,Uu hk hN hi hp pH,ae];generalize qF _ N 0=r;cases r<;>simp[qE hi (by grind)]) hk
 unfold Ns;have e:qF (fun i=>qF (fun j=>decide (cell p j i=zA (0-cell p i j))) N 0) N 0=xa N p:=by
  rw[Bool.eq_iff_iff];simp[xa,gg];grind
 grind
theorem yB9 {k:Nat}(hk:10<k)(a:List qX)(b:EQ)(m:AC)(p:EQ):AP k a b m p=some (mP a b m p):=by
 unfold AP;have l1:decide ((a.length:Int)<1)= !decide (1≤a.length):=by
  by_cases h:1≤a.length
  ·rw[aa h,ab (by omega)];rfl
  ·rw[ab h,aa (by omega)];rfl
 have l2:decide ((a.length:Int)>6)= !decide (a.length≤6):=by
  by_cases h:a.length≤6
  ·rw[aa h,ab (by omega)];rfl
  ·rw[ab h,aa (by omega)];rfl
 rw[l1,l2];unfold mP;dsimp only;by_cases h1:1≤a.length
 case neg=>rw[ab h1];rfl
 by_cases h2:a.length≤6
 case neg=>rw[aa h1,ab h2];rfl
 rw[aa h1,aa h2];simp only[aA,ak,Bool.true_and];rw[vDn (by omega) (by omega),vFl (by omega) (by omega),yLj (by omega) (by omega),vNr (by omega) (by omega)];simp only[ae];generalize hA:qF (fun i=>jY (a.getD i (0,0,0))) a.length 0=A;have sq:∀(q:Int→Bool) (m:EQ),(decide (m.length=a.length)&&qF (fun i=>decide ((m.getD i []).length=a.length)&&qF (fun j=>q (cell m i j)) a.length 0) a.length 0)=(mO a.length m&&pG q a.length m):=by
  intro q m;rw[Bool.eq_iff_iff];simp only[mO,pG,ba,aX,gg];exact⟨fun h=>⟨⟨h.1,fun i hi=>(h.2 i hi).1⟩,fun i hi=>(h.2 i hi).2⟩,fun h=>⟨h.1.1,fun i hi=>⟨h.1.2 i hi,h.2 i hi⟩⟩⟩
 rw[sq wN b,sq gF p];cases hp:mO a.length p with
 |false=>
  cases A<;>cases mO a.length b<;>cases pG wN a.length b<;>cases decide (m.length=a.length)<;>cases qF (fun i=>wN (m.getD i 0)) a.length 0<;>rfl
 |true=>
  simp only[mO,ba,aX,gg] at hp;rw[vN8 (N:=a.length) (by omega) (by omega) hp.1 hp.2];cases A<;>cases mO a.length b<;>cases pG wN a.length b<;>cases decide (m.length=a.length)<;>cases qF (fun i=>wN (m.getD i 0)) a.length 0<;>cases pG gF a.length p<;>cases xa a.length p<;>rfl
theorem yB2 {k N:Nat}{s}(hN:s.length=N)(hl:N≤1000)(hr:∀i,i<N→(s.getD i []).length≤1000):∀c i n,i+c=N→c<n→IW k n s i (s.take i)=some s
 |0,i,n,h,hn=>by
  obtain⟨n,rfl⟩:∃m,n=m+1:=⟨n-1,by omega⟩;show DX k _ s i (s.take i)=_;unfold DX;grind
 |c+1,i,n,h,hn=>by
  obtain⟨n,rfl⟩:∃m,n=m+1:=⟨n-1,by omega⟩;show DX k _ s i (s.take i)=_;unfold DX;have hi:i<s.length:=by omega
  have h1:=hr i (by omega);have e1:zP (0+(s.getD i []).length) 8=true:=qJ (by omega) (by omega);have e2:zP ((s.take i).length+1) 24=true:=qJ (by grind) (by grind);simp only[qB,qE hi (by grind),qP,aq,aa hi,e1,e2];rw[fH s i [] hi];exact yB2 hN hl hr c (i+1) n (by omega) (by omega)
theorem vAz {k s}(hl:s.length≤1000)(hk:s.length<k)(hr:∀i,i<s.length→(s.getD i []).length≤1000):IX k s=some s:=by
 unfold IX;have:=yB2 (k:=k) rfl hl hr s.length 0 k (by omega) hk;simp_all
theorem yPp {k N:Nat}{s}(hN:s.length=N)(hl:N≤1000)(hr:∀i,i<N→(s.getD i []).length≤1000):∀c i n,i+c=N→c<n→IY k n s N i (s.take i) N=some (s,N)
 |0,i,n,h,hn=>by
  obtain⟨n,rfl⟩:∃m,n=m+1:=⟨n-1,by omega⟩;show DY k _ s N i (s.take i) N=_;unfold DY;grind
 |c+1,i,n,h,hn=>by
  obtain⟨n,rfl⟩:∃m,n=m+1:=⟨n-1,by omega⟩;show DY k _ s N i (s.take i) N=_;unfold DY pI;have hi:i<N:=by omega
  have h1:=hr i (by omega);have e1:zP (0+(s.getD i []).length) 8=true:=qJ (by omega) (by omega);have e2:Nat.beq i (s.take i).length=true:=by rw[List.length_take,Nat.min_eq_left (by omega)];simp
  simp only[qB,qE hi (by grind),qP,aq,aa hi,aj,e1,e2,hN,ae];rw[fH s i [] (by omega)];exact yPp hN hl hr c (i+1) n (by omega) (by omega)
theorem yCv {k s}(hl:s.length≤1000)(hk:s.length<k)(hr:∀i,i<s.length→(s.getD i []).length≤1000):IZ k s=some s:=by
 unfold IZ Uv;have:=yPp (k:=k) rfl hl hr s.length 0 k (by omega) hk;rw[List.take_zero] at this;have e:((0:Nat):Int)=0:=rfl;rw[e] at this;have e1:zP (0+s.length) 24=true:=qJ (by omega) (by omega);simp only[e1,aj,ae];rw[this];simp only[vNn];simp
structure Sized (a:List qX) (b:EQ) (m:AC) (p:EQ):Prop where
 n1:1≤a.length
 n6:a.length≤6
 bl:b.length=a.length
 br:∀i,i<a.length→(b.getD i []).length=a.length
 ml:m.length=a.length
 pl:p.length=a.length
 pr:∀i,i<a.length→(p.getD i []).length=a.length
structure wK (a:List qX) (b:EQ) (m:AC) (p:EQ):Prop extends Sized a b m p where
 acct:∀i,i<a.length→jY (a.getD i (0,0,0))=true
 mul:∀i,i<a.length→wN (m.getD i 0)=true
 bil:∀i,i<a.length→∀j,j<a.length→wN (cell b i j)=true
 net:∀i,i<a.length→∀j,j<a.length→gF (cell p i j)=true
 turn:∀i,i<a.length→∀j,j<a.length→cell p i j=zA (0-cell p j i)
theorem Nt {a:List qX}{b:EQ}{m:AC}{p:EQ}:mP a b m p=true↔wK a b m p:=by
 unfold mP;simp only[ba,aX,mO,pG,xa,gg];constructor
 ·rintro⟨h1,h2,⟨h3,h4⟩,⟨h5,h6⟩,h7,h8,h9,I1,Uw,h12⟩
  exact{n1:=h1,n6:=h2,bl:=h3,br:=h4,ml:=h7,pl:=h5,pr:=h6,acct:=h8,mul:=h9,bil:=I1,net:=Uw,turn:=h12}
 ·intro h;exact⟨h.n1,h.n6,⟨h.bl,h.br⟩,⟨h.pl,h.pr⟩,h.ml,h.acct,h.mul,h.bil,h.net,h.turn⟩
theorem I2 {k}(hk:10<k){a b m p}(h:Sized a b m p):oM k a b m p=some (a,b,m,p):=by
 obtain⟨h1,h2,h3,h4,h5,h6,h7⟩:=h;unfold oM;have e1:zP (0+a.length) 24=true:=qJ (by omega) (by omega);have e2:zP (0+m.length) 8=true:=qJ (by omega) (by omega);rw[vAz (s:=b) (by omega) (by omega) (by grind),vAz (s:=p) (by omega) (by omega) (by grind)];grind
theorem I3 {k}(hk:10<k){a b m p}(h:Sized a b m p):gk k a b m p=some (a,b,m,p):=by
 obtain⟨h1,h2,h3,h4,h5,h6,h7⟩:=h;unfold gk Ux pI;have e1:zP (0+a.length) 24=true:=qJ (by omega) (by omega);have e2:zP (0+m.length) 8=true:=qJ (by omega) (by omega);rw[yCv (s:=b) (by omega) (by omega) (by grind),yCv (s:=p) (by omega) (by omega) (by grind)];grind
theorem Nu {α:Type} d [DecidableEq α]{a b:List α}(h:a.length=b.length):qF (fun i=>decide (a.getD i d=b.getD i d)) a.length 0=decide (a=b):=by
 rw[Bool.eq_iff_iff,gg];simp;exact⟨fun h'=>Du d h h',by grind⟩
theorem DZ {k:Nat}{a b:AC}(hk:a.length<k)(hl:a.length<9223372036854775808):nI k a b=some (decide (a=b)):=by
 unfold nI;simp only[sd];by_cases h:a.length=b.length
 ·have := lT (L := fun c i => I4 k c a b i) (N := a.length) (fun i => decide (a.getD i 0 = b.getD i 0)) (.inl ()) (.inr false) (fun c=>by
    show D4 k _ a b a.length=_;unfold D4;simp only [qP, ab (Nat.lt_irrefl _), ak]) (fun c i hi=>by
    show D4 k _ a b i=_;unfold D4;simp only[qB,qE hi hl,qP,aq,←h,aa hi,aj];cases decide (a.getD i 0=b.getD i 0)<;>rfl) hk
  rw[Nu 0 h] at this;simp only[h,decide_true,aA,ak];rw[this];cases decide (a=b)<;>rfl
 ·simp only[ab h,bQ,aj];rw[ab fun e=>h (by rw[e])]
theorem Nv {k:Nat}{a b:EQ}(hk:a.length<k)(hl:a.length<9223372036854775808)(hr:∀i,i<a.length→(a.getD i []).length<k∧(a.getD i []).length<9223372036854775808):ua k a b=some (decide (a=b)):=by
 unfold ua;simp only[sd];by_cases h:a.length=b.length
 ·have := lT (L := fun c i => I5 k c a b i) (N := a.length) (fun i => decide (a.getD i [] = b.getD i [])) (.inl ()) (.inr false) (fun c=>by
    show D5 k _ a b a.length=_;unfold D5;simp only [qP, ab (Nat.lt_irrefl _), ak]) (fun c i hi=>by
    show D5 k _ a b i=_;unfold D5;simp only[qB,qE hi hl,qP,aq,←h,aa hi,aj,DZ (hr i hi).1 (hr i hi).2,ae];cases decide (a.getD i []=b.getD i [])<;>rfl) hk
  rw[Nu [] h] at this;simp only[h,decide_true,aA,ak];rw[this];cases decide (a=b)<;>rfl
 ·simp only[ab h,bQ,aj];rw[ab fun e=>h (by rw[e])]
theorem yEf {k:Nat}(hk:10<k){a:List qX}{b:EQ}{m:AC}{p:EQ}(h:Sized a b m p)(a':List qX)(b':EQ)(m':AC)(p':EQ):
  D6 k a b m p a' b' m' p'=some (decide (a=a')&&(decide (b=b')&&(decide (p=p')&&decide (m=m')))):=by
 obtain⟨h1,h2,h3,h4,h5,h6,h7⟩:=h;unfold D6;simp only[sd];by_cases hl:a.length=a'.length
 ·rw[Nv (a:=b) (by omega) (by omega) (fun i hi=>by rw[h4 i (by omega)];omega),Nv (a:=p) (by omega) (by omega) (fun i hi=>by rw[h7 i (by omega)];omega),DZ (by omega) (by omega)];have := lT (L := fun c i => I6 k c i a b m p a' b' m' p') (N := a.length) (fun i => decide (a.getD i (0, 0, 0) = a'.getD i (0, 0, 0))) (.inl ()) (.inr false) (fun c=>by
    show D7 k _ a.length a b m p a' b' m' p'=_;unfold D7;simp only [qP, ab (Nat.lt_irrefl _), ak]) (fun c i hi=>by
    show D7 k _ i a b m p a' b' m' p'=_;unfold D7;simp only[qB,qE hi (show a.length<9223372036854775808 by omega),qP,aq,←hl,aa hi,aj];have e:decide (a.getD i (0,0,0)=a'.getD i (0,0,0))=(decide ((a.getD i (0,0,0)).1=(a'.getD i (0,0,0)).1)&&(decide ((a.getD i (0,0,0)).2.1=(a'.getD i (0,0,0)).2.1)&&decide ((a.getD i (0,0,0)).2.2=(a'.getD i (0,0,0)).2.2))):=by
     rw[Bool.eq_iff_iff];simp only[ba,aX];exact⟨fun h=>by rw[h];exact⟨rfl,rfl,rfl⟩,fun h=>Prod.ext h.1 (Prod.ext h.2.1 h.2.2)⟩
    rw[e];generalize (decide ((a.getD i (0,0,0)).1=(a'.getD i (0,0,0)).1)&&_)=r;cases r<;>rfl) (show a.length<k by omega)
  rw[Nu (0,0,0) hl] at this;simp only[hl,decide_true,aA,ak,ae];have e0:((0:Nat):Int)=0:=rfl;rw[this];cases decide (b=b')<;>cases decide (p=p')<;>cases decide (m=m')<;>cases decide (a=a')<;>rfl
 ·simp only[ab hl,bQ,aj];rw[ab fun e=>hl (by rw[e])];rfl
abbrev pd:zH:=(0,(0,(0,(0,(0,(0,0))))))
abbrev ad:qX:=(0,(0,0))
def pJ (n:Nat)(p:zH):Bool:=decide (p.2.1≥0)&&(decide (p.2.1<(n:Int))&&(decide (p.2.2.1≥0)&&(decide (p.2.2.1<(n:Int))&&(!decide (p.2.1=p.2.2.1)&&(decide (p.2.2.2.1≥1)&&(decide (p.2.2.2.1≤1099511627776)&&(decide (p.2.2.2.2.1≥1)&&decide (p.2.2.2.2.1≤3))))))))
structure yH (n:Nat) (p:zH):Prop where
 f0:0≤p.2.1
 f1:p.2.1<n
 t0:0≤p.2.2.1
 t1:p.2.2.1<n
 ne:p.2.1≠p.2.2.1
 a1:1≤p.2.2.2.1
 a2:p.2.2.2.1≤1099511627776
 c1:1≤p.2.2.2.2.1
 c3:p.2.2.2.2.1≤3
theorem Uy {n p}:pJ n p=true↔yH n p:=by
 unfold pJ;simp;exact⟨fun⟨h1,h2,h3,h4,h5,h6,h7,h8,h9⟩=>⟨h1,h2,h3,h4,h5,h6,h7,h8,h9⟩,fun⟨h1,h2,h3,h4,h5,h6,h7,h8,h9⟩=>by grind⟩
theorem Nw k (a:List qX) b m p i f t am c s ti:D8 k a b m p i f t am c s ti=some (pJ a.length (i,f,t,am,c,s,ti)):=by
 unfold D8 pJ;grind
theorem vIa k (a:List qX) b m p i f t am c s ti:Uz k a b m p i f t am c s ti=some (pJ a.length (i,f,t,am,c,s,ti)):=Nw k a b m p i f t am c s ti
def nJ (n:Nat)(l:List zH):Bool:=qF (fun i=>pJ n (l.getD i pd)) l.length 0
theorem AQ {n l}:nJ n l=true↔∀p∈l,yH n p:=by
 unfold nJ;rw[gg];constructor
 ·intro h p hp;obtain⟨i,hi,rfl⟩:=List.getElem_of_mem hp;have:=h i hi;rw[List.getD_eq_getElem?_getD,List.getElem?_eq_getElem hi] at this;exact Uy.1 this
 ·intro h i hi;exact Uy.2 (by grind)
theorem vT5 {k}{l:List zH}(hk:l.length<k)(hl:l.length<9223372036854775808)(a:List qX) b m p:Nx k l a b m p=some (!nJ a.length l):=by
 obtain ⟨x, h1, h2⟩ := wy (L := fun c i => I7 k c l l.length i a b m p) (N := l.length) (fun i => !pJ a.length (l.getD i pd)) (fun c=>by
  show D9 k _ l l.length l.length a b m p=_;unfold D9;simp) (fun c i hi=>by
  show D9 k _ l l.length i a b m p=_;unfold D9 UA;simp[qB,qE hi hl,aa hi,Nw]) hk
 unfold Nx UB;unfold nJ;grind
theorem yBr {k}{l:List zH}(hk:l.length<k)(hl:l.length<9223372036854775808)(a:List qX) b m p:I8 k a b m p l=some (nJ a.length l&&decide (l.length≤64)):=by
 unfold I8;have := lT (L := fun c i => I9 k c l i a b m p) (N := l.length) (fun i => pJ a.length (l.getD i pd)) (.inl l) (.inr false) (fun c=>by
  show Ea k _ l l.length a b m p=_;unfold Ea;simp) (fun c i hi=>by
  show Ea k _ l i a b m p=_;unfold Ea;simp only[qB,qE hi hl,qP,aa hi,vIa];simp) hk
 unfold nJ;have e:decide (((l.length:Nat):Int)≤64)=decide (l.length≤64):=by
  grind
 grind
def gB (i:Nat)(p:zH):Int:=(if p.2.2.1=i then p.2.2.2.1 else 0)-(if p.2.1=i then p.2.2.2.1 else 0)
def gS (i j:Nat)(p:zH):Int:=if p.2.1=i∧p.2.2.1=j then p.2.2.2.1 else 0
def gR (i:Nat)(p:zH):Int:=if p.2.1=i∧p.2.2.2.2.1≠3 then p.2.2.2.1 else 0
def wZ (r s:Int):Int:=if s≥r then 0 else r-s
theorem vFj {r s t}(hs:0≤s)(ht:0≤t):wZ (wZ r s) t=wZ r (s+t):=by
 unfold wZ;omega
theorem UC {r}(hr:0≤r):wZ r 0=r:=by
 unfold wZ;omega
theorem vGe {r s}:0≤wZ r s:=by
 unfold wZ;omega
theorem vWd {r s}(hr:0≤r)(hs:0≤s):wZ r s≤r:=by
 unfold wZ;omega
section
variable {n:Nat} {p:zH}
theorem vZy (h:yH n p) i:-1099511627776≤gB i p∧gB i p≤1099511627776:=by
 have h1:=h.a1;have h2:=h.a2;unfold gB;omega
theorem UD (h:yH n p) i j:0≤gS i j p∧gS i j p≤1099511627776:=by
 have h1:=h.a1;have h2:=h.a2;unfold gS;omega
theorem Ny (h:yH n p) i:0≤gR i p∧gR i p≤1099511627776:=by
 have h1:=h.a1;have h2:=h.a2;unfold gR;omega
end
def vZ (n:Nat)(l:List zH):Prop:=(∀p∈l,yH n p)∧l.length≤64
theorem UE {n l}(h:vZ n l) i:-70368744177664≤zO (gB i) l∧zO (gB i) l≤70368744177664:=by
 have h1:=Ds (g:=gB i) (A:=1099511627776) fun p hp=>vZy (h.1 p hp) i
 have h2:=h.2;omega
theorem ub {n l}(h:vZ n l) i j:0≤zO (gS i j) l∧zO (gS i j) l≤70368744177664:=by
 have h1:=Ds (g:=gS i j) (A:=1099511627776) fun p hp=>by have:=UD (h.1 p hp) i j;omega
 have h0:=wz (g:=gS i j) fun p hp=>(UD (h.1 p hp) i j).1
 have h2:=h.2;omega
theorem AR {n l}(h:vZ n l) i:0≤zO (gR i) l∧zO (gR i) l≤70368744177664:=by
 have h1:=Ds (g:=gR i) (A:=1099511627776) fun p hp=>by have:=Ny (h.1 p hp) i;omega
 have h0:=wz (g:=gR i) fun p hp=>(Ny (h.1 p hp) i).1
 have h2:=h.2;omega
theorem vZ.take {n l}(h:vZ n l) i:vZ n (l.take i):=⟨fun p hp=>h.1 p (by grind),by rw[List.length_take];have:=h.2;omega⟩
structure uc (n:Nat) (a:List qX) (p:EQ) (l:List zH) (a':List qX) (p':EQ):Prop where
 al:a'.length=n
 acct:∀i,i<n→a'.getD i ad=((a.getD i ad).1+zO (gB i) l,(a.getD i ad).2.1,wZ (a.getD i ad).2.2 (zO (gR i) l))
 pl:p'.length=n
 pr:∀i,i<n→(p'.getD i []).length=n
 cell:∀i,i<n→∀j,j<n→cell p' i j=cell p i j+zO (gS i j) l-zO (gS j i) l
theorem vC2 {n p q}(hp:p.length=n)(hq:q.length=n)(pH:∀i,i<n→(p.getD i []).length=n)(hqr:∀i,i<n→(q.getD i []).length=n)(h:∀i,i<n→∀j,j<n→cell p i j=cell q i j):p=q:=
 Du [] (by omega) fun i hi=>Du 0 (by simp_all) fun j hj=>h i (by omega) j (by simp_all)
theorem uc.same {n a a1 a2 p p1 p2 l}(x:uc n a p l a1 p1)(y:uc n a p l a2 p2):a1=a2∧p1=p2:=
 ⟨Du ad (by rw[x.al,y.al]) fun i hi=>by have:=x.al;rw[x.acct i (by omega),y.acct i (by omega)],
  vC2 x.pl y.pl x.pr y.pr fun i hi j hj=>by rw[x.cell i hi j hj,y.cell i hi j hj]⟩
structure Nz (n:Nat) (a:List qX) (p:EQ):Prop where
 al:a.length=n
 pl:p.length=n
 pr:∀i,i<n→(p.getD i []).length=n
 bal:∀i,i<n→-4611686018427387904<(a.getD i ad).1∧(a.getD i ad).1<4611686018427387904
 res:∀i,i<n→0≤(a.getD i ad).2.2∧(a.getD i ad).2.2≤2305843009213693952
 net:∀i,i<n→∀j,j<n→-72057594037927936<cell p i j∧cell p i j<72057594037927936
theorem wK.nums {a b m p}(h:wK a b m p):Nz a.length a p where
 al:=rfl
 pl:=h.pl
 pr:=h.pr
 bal:=fun i hi=>by
  have:=h.acct i hi;show-4611686018427387904<(a.getD i (0,0,0)).1∧(a.getD i (0,0,0)).1<4611686018427387904;simp only[jY,ba,aX] at this;omega
 res:=fun i hi=>by
  have:=h.acct i hi;show 0≤(a.getD i (0,0,0)).2.2∧(a.getD i (0,0,0)).2.2≤2305843009213693952;simp only[jY,ba,aX] at this;omega
 net:=fun i hi j hj=>by
  have:=h.net i hi j hj;simp[gF] at this;omega
theorem UF {m f t i j x}(hf:f<m.length)(ht:t<(m.getD f []).length):cell (m.set f ((m.getD f []).set t x)) i j=if i=f∧j=t then x else cell m i j:=by
 unfold cell;grind
theorem NA {n}{m:EQ}{f t x}(hm:m.length=n)(hr:∀i,i<n→(m.getD i []).length=n)(hf:f<n):∀i,i<n→((m.set f ((m.getD f []).set t x)).getD i []).length=n:=by
 grind
def Eb (p:zH)(r:List qX):List qX:=
 let y0:=r.set p.2.1.toNat (zA ((r.getD p.2.1.toNat ad).1-p.2.2.2.1),(r.getD p.2.1.toNat ad).2);let y1:=y0.set p.2.2.1.toNat (zA ((y0.getD p.2.2.1.toNat ad).1+p.2.2.2.1),(y0.getD p.2.2.1.toNat ad).2)
 bif !decide (p.2.2.2.2.1=3) then y1.set p.2.1.toNat ((y1.getD p.2.1.toNat ad).1,((y1.getD p.2.1.toNat ad).2.1,wC false (zA ((y1.getD p.2.1.toNat ad).2.2-p.2.2.2.1)) 0)) else y1
def xd (p:zH)(m:EQ):EQ:=
 let y3:=m.set p.2.1.toNat ((m.getD p.2.1.toNat []).set p.2.2.1.toNat (zA ((m.getD p.2.1.toNat []).getD p.2.2.1.toNat 0+p.2.2.2.1)))
 y3.set p.2.2.1.toNat ((y3.getD p.2.2.1.toNat []).set p.2.1.toNat (zA ((y3.getD p.2.2.1.toNat []).getD p.2.1.toNat 0-p.2.2.2.1)))
theorem vIo p r:(Eb p r).length=r.length:=by
 unfold Eb;grind
theorem vF7 {n p}(h:yH n p){r}(hr:r.length=n){i}(hi:i<n)(hb:∀i,i<n→-4611826755915743232<(r.getD i ad).1∧(r.getD i ad).1<4611826755915743232)
  (hz:∀i,i<n→0≤(r.getD i ad).2.2∧(r.getD i ad).2.2≤2305843009213693952):(Eb p r).getD i ad=((r.getD i ad).1+gB i p,(r.getD i ad).2.1,wZ (r.getD i ad).2.2 (gR i p)):=by
 obtain⟨f0,f1,t0,t1,ne,a1,a2,c1,c3⟩:=h;obtain⟨f,hf⟩:∃f:Nat,p.2.1=f:=⟨p.2.1.toNat,by omega⟩;obtain⟨t,ht⟩:∃t:Nat,p.2.2.1=t:=⟨p.2.2.1.toNat,by omega⟩;have NB:f≠t:=by omega
 have ik:f<n:=by omega
 have gG:t<n:=by omega
 have bf:=hb f ik;have bt:=hb t gG;have zf:=hz f ik;have e1:(r.set f (zA ((r.getD f ad).1-p.2.2.2.1),(r.getD f ad).2)).getD t ad=r.getD t ad:=by rw[fm,if_neg (fun e=>NB e.1)]
 have key:∀j,j<n→((r.set f (zA ((r.getD f ad).1-p.2.2.2.1),(r.getD f ad).2)).set t (zA ((r.getD t ad).1+p.2.2.2.1),(r.getD t ad).2)).getD j ad=((r.getD j ad).1+gB j p,(r.getD j ad).2):=by
  intro j hj;unfold gB;rw[hf,ht,fm];by_cases hjt:t=j
  ·subst hjt;rw[if_pos (by grind),if_pos rfl,if_neg (by omega),zN (by omega) (by omega)];simp
  ·rw[if_neg (fun e=>hjt e.1),if_neg (by omega),fm];by_cases hjf:f=j
   ·subst hjf;rw[if_pos ⟨rfl,by omega⟩,if_pos rfl,zN (by omega) (by omega)];simp only[Int.zero_sub];rfl
   ·rw[if_neg (fun e=>hjf e.1),if_neg (by omega)];simp
 unfold Eb;simp only[hf,ht,aq,e1];unfold gR;cases hc:decide (p.2.2.2.2.1=3) with
 |true=>
  have lB:p.2.2.2.2.1=3:=by simpa using hc
  simp only[aA,ak];rw[key i hi,if_neg (fun e=>e.2 lB),UC (hz i hi).1]
 |false=>
  have lB:p.2.2.2.2.1≠3:=by simpa using hc
  simp only[bQ,aj];rw[fm];by_cases hif:f=i
  ·subst hif;rw[if_pos (by grind),key f ik,if_pos ⟨hf,lB⟩];have:wC false (zA ((r.getD f ad).2.2-p.2.2.2.1)) 0=wZ (r.getD f ad).2.2 p.2.2.2.1:=by
    rw[zN (by omega) (by omega)];unfold wC wZ;grind
   rw[this]
  ·rw[if_neg (fun e=>hif e.1),key i hi,if_neg (by omega),UC (hz i hi).1]
theorem yA6 {n:Nat}{p:zH}(h:yH n p){m:EQ}(hm:m.length=n)(hr:∀i,i<n→(m.getD i []).length=n)(hb:∀i,i<n→∀j,j<n→-72128000000000000<cell m i j∧cell m i j<72128000000000000):
  (xd p m).length=n∧(∀i,i<n→((xd p m).getD i []).length=n)∧∀i,i<n→∀j,j<n→cell (xd p m) i j=cell m i j+gS i j p-gS j i p:=by
 obtain⟨f0,f1,t0,t1,ne,a1,a2,c1,c3⟩:=h;obtain⟨f,hf⟩:∃f:Nat,p.2.1=f:=⟨p.2.1.toNat,by omega⟩;obtain⟨t,ht⟩:∃t:Nat,p.2.2.1=t:=⟨p.2.2.1.toNat,by omega⟩;have NB:f≠t:=by omega
 have ik:f<n:=by omega
 have gG:t<n:=by omega
 unfold xd;simp only[hf,ht,aq];have r1:=NA (x:=zA ((m.getD f []).getD t 0+p.2.2.2.1)) (t:=t) hm hr ik;have c1:∀i j,cell (m.set f ((m.getD f []).set t (zA ((m.getD f []).getD t 0+p.2.2.2.1)))) i j=if i=f∧j=t then zA (cell m f t+p.2.2.2.1) else cell m i j:=fun i j=>UF (by omega) (by rw[hr f ik];omega)
 refine⟨by simp only[List.length_set];exact hm,by grind,fun i hi j hj=>?_⟩;rw[UF (by rw[List.length_set];omega) (by rw[r1 t gG];omega)];have e2:((m.set f ((m.getD f []).set t (zA ((m.getD f []).getD t 0+p.2.2.2.1)))).getD t []).getD f 0=cell m t f:=by
  show cell _ t f=_;simp_all
 rw[e2,c1];unfold gS;rw[hf,ht];have b1:=hb f ik t gG;have b2:=hb t gG f ik;by_cases h1:i=t∧j=f
 ·obtain⟨rfl,rfl⟩:=h1;rw[if_pos ⟨rfl,rfl⟩,if_neg (by omega),if_pos ⟨rfl,rfl⟩,zN (by omega) (by omega)];omega
 ·rw[if_neg h1];by_cases h2:i=f∧j=t
  ·obtain⟨rfl,rfl⟩:=h2;rw[if_pos ⟨rfl,rfl⟩,if_pos ⟨rfl,rfl⟩,if_neg (by omega),zN (by omega) (by omega)];omega
  omega
theorem UG {k n a b m p l}(hk:l.length<k)(hx:Nz n a p)(hl:vZ n l)(b0:List qX) b1 b2 b3:
  ∃a' p',Ec k k l l.length 0 b0 b1 b2 b3 a b m p=some (b0,b1,b2,b3,a',b,m,p')∧uc n a p l a' p':=by
 have := vJ (L := fun c i (s : List qX × EQ) => Ec k c l l.length i b0 b1 b2 b3 s.1 b m s.2) (N := l.length) (fun s => (b0, b1, b2, b3, s.1, b, m, s.2)) (fun i s => uc n a p (l.take i) s.1 s.2) (fun c s hs=>by
   show Ed k _ l l.length l.length b0 b1 b2 b3 s.1 b m s.2=_;unfold Ed;simp) (fun c i s hi hs=>by
   refine⟨(Eb (l.getD i pd) s.1,xd (l.getD i pd) s.2),?_,?_⟩
   ·show Ed k _ l l.length i b0 b1 b2 b3 s.1 b m s.2=_;have bR:yH n (l.getD i pd):=hl.1 _ (gh hi);unfold Ed Eb xd;have nK:=hl.2;simp only[qB,qE hi (by grind),qP,aq,aa hi,aj];obtain⟨f0,f1,t0,t1,ne,a1,a2,c1,c3⟩:=bR;obtain⟨f,hf⟩:∃f:Nat,(l.getD i pd).2.1=f:=⟨(l.getD i pd).2.1.toNat,by omega⟩;obtain⟨t,ht⟩:∃t:Nat,(l.getD i pd).2.2.1=t:=⟨(l.getD i pd).2.2.1.toNat,by omega⟩;have ik:f<n:=by omega
    have gG:t<n:=by omega
    have r1:=NA (x:=zA ((s.2.getD f []).getD t 0+(l.getD i pd).2.2.2.1)) (t:=t) hs.pl hs.pr ik;simp only[hf,ht,aq,qB,hs.al,hs.pl,List.length_set,hs.pr f ik,r1 t gG,aa ik,aa gG,aj,xe,ae];grind
   ·have bR:yH n (l.getD i pd):=hl.1 _ (gh hi);have aW:=hl.take i;have hp := yA6 bR hs.pl hs.pr (fun i' bH j' mB=>by
     rw[hs.cell i' bH j' mB];have h1:=hx.net i' bH j' mB;have h2:=ub aW i' j';have h3:=ub aW j' i';omega)
    refine⟨by rw[vIo];exact hs.al,fun i' bH=>?_,hp.1,hp.2.1,fun i' bH j' mB=>?_⟩
    ·rw [vF7 bR hs.al bH (fun j hj=>by
       rw[hs.acct j hj];have h1:=hx.bal j hj;have h2:=UE aW j;dsimp only;omega) (fun j hj=>by
       rw[hs.acct j hj];have h1:=hx.res j hj;have h2:=AR aW j;dsimp only;exact⟨vGe,Int.le_trans (vWd h1.1 h2.1) h1.2⟩),hs.acct i' bH,←fH l i pd hi,lU,lU]
     dsimp only[zO];rw[vFj (AR aW i').1 (Ny bR i').1,Int.add_zero,Int.add_zero,Int.add_assoc]
    ·rw[hp.2.2 i' bH j' mB,hs.cell i' bH j' mB,←fH l i pd hi,lU,lU];dsimp only[zO];omega) (s:=(a,p)) hk ⟨hx.al,fun i hi=>by
      rw[List.take_zero];show a.getD i ad=((a.getD i ad).1+0,(a.getD i ad).2.1,wZ (a.getD i ad).2.2 0);rw[UC (hx.res i hi).1,Int.add_zero],hx.pl,hx.pr,fun i hi j hj=>by
      rw[List.take_zero];show cell p i j=cell p i j+0-0;omega⟩
 simp_all
theorem UH {k n l}(hk:l.length<k)(hl:vZ n l)(i j:Nat):xf k l i j=some (zO (gS i j) l):=by
 have nK:=hl.2;obtain ⟨s, h1, h2⟩ := vJ (L := fun c x (s : Int) => Ja k c l i j s x) (N := l.length) (fun s => s) (fun x s => s = zO (gS i j) (l.take x)) (fun c s hs=>by
   show Ee k _ l i j s l.length=_;unfold Ee;simp) (fun c x s hx hs=>by
   refine⟨zO (gS i j) (l.take (x+1)),?_,rfl⟩;show Ee k _ l i j s x=_;have hb:=ub (hl.take x) i j;have hm:yH n (l.getD x pd):=hl.1 _ (by grind);have e:zO (gS i j) (l.take (x+1))=s+gS i j (l.getD x pd):=by
    rw[←fH l x pd hx,lU,hs];show _+(_+0)=_;omega
   have w:=zN (x:=s+(l.getD x pd).2.2.2.1) (by have:=hm.a1;omega) (by have:=hm.a2;omega);unfold Ee;simp[qB,qE hx (by grind)];rw[e];unfold gS;grind) (s:=0) hk rfl
 unfold xf;simp_all
theorem vTv {k n l}(hk:l.length<k)(hl:vZ n l)(i j:Nat):NC k l i j=some (zO (gS i j) l-zO (gS j i) l):=by
 unfold NC;rw[UH hk hl i j,UH hk hl j i];have h1:=ub hl i j;have h2:=ub hl j i;simp;rw[zN (by omega) (by omega)]
def gN (i:Nat)(p:zH):Int:=if p.2.1=i∧p.2.2.2.2.1=3 then p.2.2.2.1 else 0
theorem ND {n p}(h:yH n p) i:0≤gN i p∧gN i p≤1099511627776:=by
 have h1:=h.a1;have h2:=h.a2;unfold gN;omega
theorem yZ2 {n l}(h:vZ n l) i:0≤zO (gN i) l∧zO (gN i) l≤70368744177664:=by
 have h1:=Ds (g:=gN i) (A:=1099511627776) fun p hp=>by have:=ND (h.1 p hp) i;omega
 have h0:=wz (g:=gN i) fun p hp=>(ND (h.1 p hp) i).1
 have h2:=h.2;omega
theorem yFh {k n:Nat}{l}(hk:l.length<k)(hl:vZ n l)(i:Nat):Jb k l i=some (zO (gN i) l,zO (gR i) l):=by
 have nK:=hl.2;obtain ⟨s, h1, h2⟩ := vJ (L := fun c x (s : Int × Int) => Jc k c l i s.1 s.2 x) (N := l.length) (fun s => s) (fun x s => s = (zO (gN i) (l.take x), zO (gR i) (l.take x))) (fun c s hs=>by
   show Ef k _ l i s.1 s.2 l.length=_;unfold Ef;simp) (fun c x s hx hs=>by
   refine⟨(zO (gN i) (l.take (x+1)),zO (gR i) (l.take (x+1))),?_,rfl⟩;show Ef k _ l i s.1 s.2 x=_;have hb:=yZ2 (hl.take x) i;have bF:=AR (hl.take x) i;have hm:yH n (l.getD x pd):=hl.1 _ (by grind);have e:zO (gN i) (l.take (x+1))=s.1+gN i (l.getD x pd):=by
    rw[←fH l x pd hx,lU,hs];show _+(_+0)=_;omega
   have e':zO (gR i) (l.take (x+1))=s.2+gR i (l.getD x pd):=by
    rw[←fH l x pd hx,lU,hs];show _+(_+0)=_;omega
   have w:=zN (x:=s.1+(l.getD x pd).2.2.2.1) (by have:=hm.a1;grind) (by have:=hm.a2;grind);have w':=zN (x:=s.2+(l.getD x pd).2.2.2.1) (by have:=hm.a1;rw[hs];omega) (by have:=hm.a2;grind);unfold Ef;simp only[qB,qE hx (by grind),qP,aj];rw[e,e'];unfold gN gR;grind) (s:=(0,0)) hk rfl
 unfold Jb;simp_all
theorem UI {k n l}(hk:l.length<k)(hl:vZ n l)(i:Nat):NF k l i=some (zO (gR i) l):=by
 unfold NF;rw[yFh hk hl i];rfl
theorem yOv k b c r s (h:-9223372036854775808≤r-s)(h':r<9223372036854775808)(hs:0≤s):Jd k b c r s=some (wZ r s):=by
 unfold Jd wZ;by_cases e:s≥r
 ·simp_all
 ·rw[ab e,if_neg e,zN h (by omega)];rfl
theorem yAa {n l}(hl:∀p∈l,yH n p) i (hi:i<n):qG (fun j=>zO (gS i j) l-zO (gS j i) l) n= -zO (gB i) l:=by
 have e1:qG (fun j=>zO (gS i j) l-zO (gS j i) l) n=qG (fun j=>zO (fun p=>gS i j p-gS j i p) l) n:=se fun j _=>(Ub _ _ l).symm
 rw[e1,M9 (fun j p=>gS i j p-gS j i p)];have e2:∀p∈l,qG (fun j=>gS i j p-gS j i p) n=0-gB i p:=by
  intro p hp;obtain⟨f0,f1,t0,t1,ne,a1,a2,c1,c3⟩:=hl p hp;obtain⟨f,hf⟩:∃f:Nat,p.2.1=f:=⟨p.2.1.toNat,by omega⟩;obtain⟨t,ht⟩:∃t:Nat,p.2.2.1=t:=⟨p.2.2.1.toNat,by omega⟩;have g1:∀j,gS i j p-gS j i p=(if j=t then(if f=i then p.2.2.2.1 else 0) else 0)+(if j=f then(if t=i then-p.2.2.2.1 else 0) else 0):=by
   unfold gS;omega
  rw[se fun j _=>g1 j,Dt,AI,AI];unfold gB;omega
 rw[M8 e2,Ub];have:zO (fun _:zH=>(0:Int)) l=0:=by
  clear e1 e2 hl
  induction l with
  |nil=>rfl
  |cons p l ih=>show 0+zO _ l=0;omega
 omega
structure vGu (n:Nat) (a:List qX) (p:EQ) (l:List zH) (i:Nat) (a':List qX) (p':EQ):Prop where
 al:a'.length=n
 done:∀x,x<n→x<i→a'.getD x ad=((a.getD x ad).1+zO (gB x) l,(a.getD x ad).2.1,wZ (a.getD x ad).2.2 (zO (gR x) l))
 rest:∀x,x<n→¬x<i→a'.getD x ad=a.getD x ad
 pl:p'.length=n
 pr:∀x,x<n→(p'.getD x []).length=n
 cell:∀x,x<n→∀y,y<n→cell p' x y=if x<i then cell p x y+zO (gS x y) l-zO (gS y x) l else cell p x y
structure UJ (n:Nat) (a:List qX) (p:EQ) (l:List zH) (i j:Nat) (a':List qX) (p':EQ):Prop where
 al:a'.length=n
 done:∀x,x<n→x<i→a'.getD x ad=((a.getD x ad).1+zO (gB x) l,(a.getD x ad).2.1,wZ (a.getD x ad).2.2 (zO (gR x) l))
 here:a'.getD i ad=((a.getD i ad).1-qG (fun j=>zO (gS i j) l-zO (gS j i) l) j,(a.getD i ad).2.1,wZ (a.getD i ad).2.2 (zO (gR i) l))
 rest:∀x,x<n→i<x→a'.getD x ad=a.getD x ad
 pl:p'.length=n
 pr:∀x,x<n→(p'.getD x []).length=n
 cell:∀x,x<n→∀y,y<n→cell p' x y=if x<i∨(x=i∧y<j) then cell p x y+zO (gS x y) l-zO (gS y x) l else cell p x y
theorem vC3 {k n a p l}(hk:n<k)(bN:l.length<k)(hn:n≤1000)(hx:Nz n a p)(hl:vZ n l){i}(hi:i<n)(b0:List qX) b1 b2 b3 b m
  {a0 p0} (h0:UJ n a p l i 0 a0 p0):∃a' p',Eg k k l i 0 b0 b1 b2 b3 a0 b m p0=some (l,(i:Int),b0,b1,b2,b3,a',b,m,p')∧UJ n a p l i n a' p':=by
 obtain ⟨s, h1, h2⟩ := vJ (L := fun c j (s : List qX × EQ) => Eg k c l i j b0 b1 b2 b3 s.1 b m s.2) (N := n) (fun s => (l, (i : Int), b0, b1, b2, b3, s.1, b, m, s.2)) (fun j s => UJ n a p l i j s.1 s.2) (fun c s hs=>by
   show Eh k _ l i n b0 b1 b2 b3 s.1 b m s.2=_;unfold Eh;simp only [qP, hs.al, ab (Nat.lt_irrefl _), ak]) (fun c j s hj hs=>by
   refine⟨(s.1.set i (zA ((s.1.getD i ad).1-(zO (gS i j) l-zO (gS j i) l)),(s.1.getD i ad).2),s.2.set i ((s.2.getD i []).set j (zA ((s.2.getD i []).getD j 0+(zO (gS i j) l-zO (gS j i) l))))),?_,?_⟩
   ·show Eh k _ l i j b0 b1 b2 b3 s.1 b m s.2=_;unfold Eh;simp only[qB,qE hj (by grind),qP,aq,hs.al,hs.pl,hs.pr i hi,aa hi,aa hj,aj,vTv bN hl,ae]
   ·have hb:=hx.bal i hi;have hg:∀j,-70368744177664≤zO (gS i j) l-zO (gS j i) l∧zO (gS i j) l-zO (gS j i) l≤70368744177664:=fun j=>by
     have h1:=ub hl i j;have h2:=ub hl j i;omega
    have CY:=w6 hg j;have Dn:=hg j;have pK:=hx.net i hi j hj;have hc:=hs.cell i hi j hj;rw[if_neg (by omega)] at hc;refine⟨by simp only[List.length_set];exact hs.al,fun x jy xg=>?_,?_,fun x jy xg=>?_,by simp only[List.length_set];exact hs.pl,NA hs.pl hs.pr hi,fun x jy y Je=>?_⟩
    ·rw[fm,if_neg (by grind)];exact hs.done x jy xg
    ·rw[fm,if_pos ⟨rfl,by rw[hs.al];exact hi⟩,hs.here];dsimp only;rw[zN (by omega) (by omega)];show(_,_)=((a.getD i ad).1-(qG _ j+_),_);grind
    ·rw[fm,if_neg (by grind)];exact hs.rest x jy xg
    ·have e:(s.2.getD i []).getD j 0=cell p i j:=hc;rw[UF (by rw[hs.pl];exact hi) (by rw[hs.pr i hi];exact hj),e];by_cases NG:x=i∧y=j
     ·obtain⟨rfl,rfl⟩:=NG;rw[if_pos ⟨rfl,rfl⟩,if_pos (by omega),zN (by omega) (by omega)];omega
     ·rw[if_neg NG,hs.cell x jy y Je];omega) (s:=(a0,p0)) hk h0
 grind
theorem vYi {k n a b m p l}(hk:n<k)(bN:l.length<k)(hn:n≤1000)(hx:Nz n a p)(hl:vZ n l)(b0:List qX) b1 b2 b3:
  ∃a' p',Ei k k l 0 b0 b1 b2 b3 a b m p=some (b0,b1,b2,b3,a',b,m,p')∧uc n a p l a' p':=by
 obtain ⟨s, h1, h2⟩ := vJ (L := fun c i (s : List qX × EQ) => Ei k c l i b0 b1 b2 b3 s.1 b m s.2) (N := n) (fun s => (b0, b1, b2, b3, s.1, b, m, s.2)) (fun i s => vGu n a p l i s.1 s.2) (fun c s hs=>by
   show Ej k _ l n b0 b1 b2 b3 s.1 b m s.2=_;unfold Ej;simp only [qP, hs.al, ab (Nat.lt_irrefl _), ak]) (fun c i s hi hs=>by
   have hai:=hs.rest i hi (by simp);have hr:=hx.res i hi;have hsp:=AR hl i;obtain⟨a',p',h1,h2⟩:=vC3 (a0:=s.1.set i ((s.1.getD i ad).1,((s.1.getD i ad).2.1,wZ (s.1.getD i ad).2.2 (zO (gR i) l)))) (p0:=s.2) hk bN hn hx hl hi b0 b1 b2 b3 b m ⟨by rw[List.length_set];exact hs.al,fun x jy xg=>by
     rw[fm,if_neg (by grind)];exact hs.done x jy xg,by
     rw[fm,if_pos ⟨rfl,by rw[hs.al];exact hi⟩,hai];show _=((a.getD i ad).1-0,_,_);simp,fun x jy xg=>by
     rw[fm,if_neg (by grind)];exact hs.rest x jy (by omega),hs.pl,hs.pr,fun x jy y Je=>by
     rw[hs.cell x jy y Je];omega⟩
   refine⟨(a',p'),?_,?_⟩
   ·show Ej k _ l i b0 b1 b2 b3 s.1 b m s.2=_;unfold Ej;have hK:=yOv k (s.1.getD i ad).1 (s.1.getD i ad).2.1 (s.1.getD i ad).2.2 (zO (gR i) l) (by grind) (by grind) hsp.1;simp only[qB,qP,aq,hs.al,aa hi,aj,UI bN hl,ae];rw[hK];simp only[ae];rw[h1];simp only[ae,qE hi (by grind)]
   ·refine⟨h2.al,fun x jy xg=>?_,fun x jy xg=>h2.rest x jy (by omega),h2.pl,h2.pr,fun x jy y Je=>?_⟩
    ·by_cases h:x<i
     ·exact h2.done x jy h
     ·have:x=i:=by omega
      subst this;rw[h2.here,yAa hl.1 x jy];simp
    ·rw[h2.cell x jy y Je];omega) (s:=(a,p)) hk ⟨hx.al,by simp,by simp,hx.pl,hx.pr,by simp⟩
 exact⟨s.1,s.2,h1,h2.al,fun i hi=>h2.done i hi hi,h2.pl,h2.pr,fun i hi j hj=>by rw[h2.cell i hi j hj,if_pos hi]⟩
def sj (a:List qX)(b:EQ)(m:AC)(p:EQ)(l:List zH)(r:List qX×EQ×AC×EQ×Int):Prop:=
 (vZ a.length l→∃a' p',uc a.length a p l a' p'∧r=(bif mP a' b m p' then(a',b,m,p',0) else(a,b,m,p,8)))∧(¬vZ a.length l→r=(a,b,m,p,1))
theorem NH {k}(hk:100<k){a b m p}{l:List zH}(h:wK a b m p)(hl:l.length≤80):∃r,pL k a b m p l=some r∧sj a b m p l r:=by
 unfold pL sj;have e:decide (((l.length:Nat):Int)>64)=decide (¬l.length≤64):=by
  grind
 rw[e];by_cases bP:l.length≤64
 case neg=>
  rw[aa bP];exact⟨_,rfl,fun e=>absurd e.2 bP,by simp⟩
 rw[ab (by omega),vT5 (by omega) (by omega)];cases hm:nJ a.length l with
 |false=>
  refine⟨_,rfl,fun e=>?_,by simp⟩;rw[AQ.2 e.1] at hm;cases hm
 |true=>
  have aW:vZ a.length l:=⟨AQ.1 hm,bP⟩;simp only[I3 (show 10<k by omega) h.toSized,ae];obtain⟨a',p',h1,h2⟩:=UG (b:=b) (m:=m) (show l.length<k by omega) h.nums aW a b m p;rw[h1];simp only[ae,yB9 (show 10<k by omega)];cases hB:mP a' b m p' with
  |true=>exact⟨_,rfl,by grind,by grind⟩
  |false=>exact⟨_,rfl,by grind,by grind⟩
theorem vRd {k}(hk:100<k){a b m p}{l:List zH}(h:wK a b m p)(hl:l.length≤80):∃r,AT k a b m p l=some r∧sj a b m p l r:=by
 unfold AT sj;rw[yBr (by omega) (by omega)];cases hm:nJ a.length l with
 |false=>
  refine⟨_,rfl,fun e=>?_,by simp⟩;rw[AQ.2 e.1] at hm;cases hm
 |true=>
  by_cases bP:l.length≤64
  case neg=>
   rw[ab bP];exact⟨_,rfl,fun e=>absurd e.2 bP,by simp⟩
  have aW:vZ a.length l:=⟨AQ.1 hm,bP⟩;have h6:=h.n6;rw[aa bP];simp only[I2 (show 10<k by omega) h.toSized,ae];obtain⟨a',p',h1,h2⟩:=vYi (b:=b) (m:=m) (show a.length<k by omega) (by grind) (by omega) h.nums aW a b m p;rw[h1];simp only[ae,Um (show 10<k by omega)];cases hB:mP a' b m p' with
  |true=>exact⟨_,rfl,by grind,by grind⟩
  |false=>exact⟨_,rfl,by grind,by grind⟩
theorem sj.same {a b m p l r r'}(h:sj a b m p l r)(h':sj a b m p l r'):r=r':=by
 by_cases c:vZ a.length l
 ·obtain⟨a1,p1,x,rfl⟩:=h.1 c;obtain⟨a2,p2,y,rfl⟩:=h'.1 c;obtain⟨rfl,rfl⟩:=x.same y;rfl
 ·rw[h.2 c,h'.2 c]
theorem UK {k n i p}(hk:n<k)(hn:n≤100)(hi:i<n)(hp:p.length=n)(hr:(p.getD i []).length=n)(hb:∀j,-72057594037927936≤cell p i j∧cell p i j≤72057594037927936)(a:List qX) b m:
  NI k a b m p i=some (qG (cell p i) n):=by
 obtain ⟨s, h1, h2⟩ := vJ (L := fun c j (s : Int) => Ek k c i s j a b m p) (N := n) (fun s => s) (fun j s => s = qG (cell p i) j) (fun c s hs=>by
   show El k _ i s n a b m p=_;unfold El;simp only [qB, qP, aq, hp, hr, aa hi, ab (Nat.lt_irrefl _), ak, aj]) (fun c j s hj hs=>by
   refine⟨qG (cell p i) (j+1),?_,rfl⟩;show El k _ i s j a b m p=_;have h1:=w6 hb j;have h2:=hb j;unfold El;simp only[qB,qE hj (by grind),qP,aq,hp,hr,aa hi,aa hj];show Ek k c i (zA (s+cell p i j)) _ a b m p=_;rw[hs,zN (by omega) (by omega)];rfl) (s:=0) hk rfl
 unfold NI;simp_all
theorem NJ {a b m p}(hb:wK a b m p){i}(hi:i<a.length) j:-72057594037927936≤cell p i j∧cell p i j≤72057594037927936:=by
 by_cases hj:j<a.length
 ·have:=hb.net i hi j hj;simp[gF] at this;omega
 ·have:cell p i j=0:=by
   unfold cell;rw[List.getD_eq_getElem?_getD,List.getElem?_eq_none]
   ·rfl
   ·rw[hb.pr i hi];omega
  omega
theorem NK {S X:Type}{L:Nat→Int→S→Option X}{N} ok (e:S→X) b (inv:Nat→S→Prop)(bM:∀n s,inv N s→L (n+1) (N:Int) s=some (e s))
  (aK:∀n i s,i<N→inv i s→(ok i=true→∃s',L (n+1) (i:Int) s=L n ((i+1:Nat):Int) s'∧inv (i+1) s')∧(ok i=false→L (n+1) (i:Int) s=some b)):
  ∀c i n s,i+c=N→c<n→inv i s→(qF ok c i=true∧∃s',L n (i:Int) s=some (e s')∧inv N s')∨(qF ok c i=false∧L n (i:Int) s=some b)
 |0,i,n,s,h,hn,hs=>by
  obtain⟨n,rfl⟩:∃m,n=m+1:=⟨n-1,by omega⟩;have:i=N:=by omega
  subst this;exact .inl ⟨rfl,s,bM n s hs,hs⟩
 |c+1,i,n,s,h,hn,hs=>by
  obtain⟨n,rfl⟩:∃m,n=m+1:=⟨n-1,by omega⟩;obtain⟨h1,h2⟩:=aK n i s (by omega) hs;unfold qF;cases ho:ok i with
  |true=>
   obtain⟨s',h3,h4⟩:=h1 ho;rw[h3];exact NK ok e b inv bM aK c (i+1) n s' (by omega) (by omega) h4
  |false=>simp_all
def dS (l:List zH)(i j:Nat):Int:=zO (gS i j) l-zO (gS j i) l
def ud (b p:EQ)(l:List zH)(i j:Nat):Bool:= !(decide (zO (gS i j) l>0)&&(!decide (cell b i j= -1)&&decide (cell p i j+dS l i j>cell b i j)))
def gH (a:List qX)(b:EQ)(m:AC)(p:EQ)(l:List zH)(i:Nat):Bool:=
 !decide (zO (gN i) l + zO (gR i) l = 0) && (!qF (ud b p l i) a.length 0 || (decide ((a.getD i ad).1+(a.getD i ad).2.1+zO (gB i) l<0)||
  ((decide (zO (gN i) l>0)&&decide ((a.getD i ad).1+(a.getD i ad).2.1+zO (gB i) l<wZ (a.getD i ad).2.2 (zO (gR i) l)))||
   (!decide (m.getD i 0= -1)&&decide (qG (cell p i) a.length-zO (gB i) l>m.getD i 0)))))
theorem Em {n l}(hl:vZ n l) i j:-70368744177664≤dS l i j∧dS l i j≤70368744177664:=by
 have h1:=ub hl i j;have h2:=ub hl j i;unfold dS;omega
theorem vDe {k:Nat}{a:List qX}{b:EQ}{m:AC}{p:EQ}{l:List zH}(hk:100<k)(hb:wK a b m p)(hl:vZ a.length l){i:Nat}(hi:i<a.length)(x y n0 dN:Int)
  (HJ:-6917529027641081856≤n0∧n0≤6917529027641081856) (pK:-576460752303423488≤dN∧dN≤576460752303423488):
  sk k k l i x y n0 dN 0 a b m p=some (bif qF (ud b p l i) a.length 0 then .inl ((i:Int),x,y,n0-qG (dS l i) a.length,dN+qG (dS l i) a.length,a,b,m,p) else .inr true):=by
 have h6:=hb.n6;have bN:l.length<k:=by have:=hl.2;omega
 have := NK (L := fun c j (s : Int × Int) => sk k c l i x y s.1 s.2 j a b m p) (N := a.length) (ud b p l i) (fun s => .inl ((i : Int), x, y, s.1, s.2, a, b, m, p)) (.inr true) (fun j s => s = (n0 - qG (dS l i) j, dN + qG (dS l i) j)) (fun c s hs=>by
   show En k _ l i x y s.1 s.2 a.length a b m p=_;unfold En;simp only [qP, ab (Nat.lt_irrefl _), ak]) (fun c j s hj hs=>by
   have CY:=w6 (fun j=>Em hl i j) j;have Dn:=Em hl i j;have hj1:(j:Int)*70368744177664≤6*70368744177664:=by omega
   have pK:=hb.nums.net i hi j hj;have e1:sk k (c+1) l i x y s.1 s.2 j a b m p=bif ud b p l i j then sk k c l i x y (n0-qG (dS l i) (j+1)) (dN+qG (dS l i) (j+1)) ((j+1:Nat):Int) a b m p else some (.inr true):=by
    show En k _ l i x y s.1 s.2 j a b m p=_;unfold En;simp only[qB,qE hj (show a.length<9223372036854775808 by omega),qP,aq,aa hi,aa hj,aj,UH bN hl,ae,hb.bl,hb.br i hi,hb.pl,hb.pr i hi];have ed:zA (zO (gS i j) l-zO (gS j i) l)=dS l i j:=zN (by have:=Dn.1;unfold dS at this;omega) (by have:=Dn.2;unfold dS at this;omega);rw[ed];have e2:zA (s.1-dS l i j)=n0-qG (dS l i) (j+1):=by
     rw[hs];show zA (n0-qG (dS l i) j-dS l i j)=n0-(qG (dS l i) j+dS l i j);rw[zN (by omega) (by omega)];omega
    have e3:zA (s.2+dS l i j)=dN+qG (dS l i) (j+1):=by
     rw[hs];show zA (dN+qG (dS l i) j+dS l i j)=dN+(qG (dS l i) j+dS l i j);rw[zN (by omega) (by omega)];omega
    rw[e2,e3];show(bif decide (zO (gS i j) l>0) then(bif !decide (cell b i j= -1) then(bif decide (zA (cell p i j+dS l i j)>cell b i j) then _ else _) else _) else _)=_;rw[zN (x:=cell p i j+dS l i j) (by omega) (by omega)];unfold ud;cases decide (zO (gS i j) l>0)<;>cases decide (cell b i j= -1)<;>cases decide (cell p i j+dS l i j>cell b i j)<;>rfl
   refine⟨fun ho=>⟨_,?_,rfl⟩,fun ho=>?_⟩
   ·rw[e1,ho];rfl
   ·rw [e1, ho]; rfl) a.length 0 k (n0, dN) (by omega) (by omega) (by
    show(n0,dN)=(n0-0,dN+0);rw[Int.sub_zero,Int.add_zero])
 rcases this with⟨h1,s,h2,h3⟩|⟨h1,h2⟩
 ·have NL:sk k k l i x y n0 dN 0 a b m p=_:=h2;rw[NL,h1,h3];rfl
 ·have NL:sk k k l i x y n0 dN 0 a b m p=_:=h2;rw[NL,h1];rfl
theorem yKd {n l}(hl:∀p∈l,yH n p) i (hi:i<n):qG (dS l i) n= -zO (gB i) l:=yAa hl i hi
theorem yWw {k a b m p l}(hk:100<k)(hb:wK a b m p)(hl:vZ a.length l){i}(hi:i<a.length):NM k a b m p l i=some (gH a b m p l i):=by
 have h6:=hb.n6;have bN:l.length<k:=by have:=hl.2;omega
 have hN:=yZ2 hl i;have hR:=AR hl i;have hx:=hb.acct i hi;simp only[jY,ba,aX] at hx;have AU:-4611686018427387904<(a.getD i ad).1∧(a.getD i ad).1<4611686018427387904∧0≤(a.getD i ad).2.1∧(a.getD i ad).2.1≤2305843009213693952∧0≤(a.getD i ad).2.2∧(a.getD i ad).2.2≤2305843009213693952:=by grind
 have pK:=w6 (NJ hb hi) a.length;unfold NM;rw[yFh bN hl];simp only[ae];rw[zN (x:=zO (gN i) l+zO (gR i) l) (by omega) (by omega)];unfold gH;cases hz:decide (zO (gN i) l+zO (gR i) l=0) with
 |true=>rfl
 |false=>
  rw[qB,aa hi];simp only[aq];rw[UK (by omega) (by omega) hi hb.pl (hb.pr i hi) (NJ hb hi)];simp only[ae];rw[zN (x:=(a.getD i (0,(0,0))).1+(a.getD i (0,(0,0))).2.1) (by omega) (by omega)];rw[vDe hk hb hl hi _ _ _ _ (by omega) (by omega),yKd hl.1 i hi];cases qF (ud b p l i) a.length 0 with
  |false=>rfl
  |true=>
   have hK:=yOv k (a.getD i ad).1 (a.getD i ad).2.1 (a.getD i ad).2.2 (zO (gR i) l) (by omega) (by omega) hR.1;simp[qB,hb.ml];grind
theorem vEt {k:Nat}{a:List qX}{b:EQ}{m:AC}{p:EQ}{l:List zH}(hk:100<k)(hb:wK a b m p)(hl:vZ a.length l):∃r,ue k a b m p l=some r∧(r=[]↔qF (fun i=> !gH a b m p l i) a.length 0=true):=by
 have h6:=hb.n6;obtain ⟨r, h1, h2⟩ := vJ (L := fun c i (r : AC) => uf k c l i a b m p r) (N := a.length) (fun r => r) (fun i r => (r = [] ↔ ∀ j, j < i → gH a b m p l j = false) ∧ r.length ≤ i) (fun c r hr=>by
   show sm k _ l a.length a b m p r=_;unfold sm;simp only [qP, ab (Nat.lt_irrefl _), ak]) (fun c i r hi hr=>by
   have aO:zP (r.length+1) 8=true:=qJ (by omega) (by omega);have e:uf k (c+1) l i a b m p r=uf k c l ((i+1:Nat):Int) a b m p (bif gH a b m p l i then r++[(i:Int)] else r):=by
    show sm k _ l i a b m p r=_;unfold sm;simp only[qE hi (show a.length<9223372036854775808 by omega),qP,aa hi,aj,yWw hk hb hl hi,ae,aO];cases gH a b m p l i<;>rfl
   refine⟨_,e,?_⟩;cases hs:gH a b m p l i with
   |true=>
    refine⟨⟨fun h=>?_,fun h=>?_⟩,by simp only[aj,List.length_append,List.length_cons,List.length_nil];omega⟩
    ·simp at h
    ·rw[h i (Nat.lt_succ_self i)] at hs;cases hs
   |false=>
    refine⟨⟨fun h j hj=>?_,fun h=>?_⟩,by simp only[ak];omega⟩
    ·by_cases c:j=i
     ·subst c;exact hs
     ·exact hr.1.1 h j (by omega)
    ·exact hr.1.2 fun j hj=>h j (by omega)) (s:=[]) (show a.length<k by omega) ⟨⟨fun _ j hj=>absurd hj (Nat.not_lt_zero j),fun _=>rfl⟩,Nat.le_refl 0⟩
 unfold ue;rw[h1];refine⟨r,rfl,h2.1.trans ?_⟩;rw[gg];exact⟨fun h j hj=>by rw[h j hj];rfl,fun h j hj=>by have:=h j hj;simpa using this⟩
def xh (a:List qX)(b:EQ)(m:AC)(p:EQ)(l:List zH):Bool:=(nJ a.length l&&decide (l.length≤64))&&qF (fun i=> !gH a b m p l i) a.length 0
theorem vZ0 {k a b m p}{l:List zH}(hk:100<k)(hb:wK a b m p)(hl:l.length≤80):Jf k a b m p l=some (xh a b m p l):=by
 unfold Jf xh;rw[yBr (by omega) (by omega)];cases hm:(nJ a.length l&&decide (l.length≤64)) with
 |false=>rfl
 |true=>
  simp  at hm;obtain⟨r,h1,h2⟩:=vEt hk hb ⟨AQ.1 hm.1,hm.2⟩;simp_all
theorem vG3 {k n i p}(hk:n<k)(hn:n≤100)(hi:i<n)(hp:p.length=n)(hr:(p.getD i []).length=n)(hb:∀j,-72057594037927936≤cell p i j∧cell p i j≤72057594037927936)(a:List qX) b m:
  NN k a b m p i=some (qG (cell p i) n):=by
 obtain ⟨s, h1, h2⟩ := vJ (L := fun c j (s : Int) => Eo k c s (p.getD i []) n j) (N := n) (fun s => s) (fun j s => s = qG (cell p i) j) (fun c s hs=>by
   show Ep k _ s (p.getD i []) n n=_;unfold Ep;simp) (fun c j s hj hs=>by
   refine⟨qG (cell p i) (j+1),?_,rfl⟩;show Ep k _ s (p.getD i []) n j=_;have h1:=w6 hb j;have h2:=hb j;unfold Ep;simp only[qB,qE hj (by grind),qP,hr,aa hj];show Eo k c (zA (s+cell p i j)) _ _ _=_;rw[hs,zN (by omega) (by omega)];rfl) (s:=0) hk rfl
 unfold NN;simp[qB];simp_all
theorem yIw k {n:Nat}(hn:n≤6):Jg k n=some true:=by
 unfold Jg;grind
theorem yDy {α:Type}(v z:α) n i (hi:i<n):(List.replicate i v++List.replicate (n-i) z).set i v=List.replicate (i+1) v++List.replicate (n-(i+1)) z:=by
 have e:List.replicate (n-i) z=z::List.replicate (n-(i+1)) z:=by
  rw[show n-i=(n-(i+1))+1 by omega];rfl
 rw[List.set_append_right _ _ (by simp),List.length_replicate,Nat.sub_self,e];simp[List.replicate_succ']
theorem ySy {k n}(hk:n<k)(hn:n≤6) v:AV k n v=some (List.replicate n v):=by
 unfold AV;rw[yIw k hn];obtain ⟨s, h1, h2⟩ := vJ (L := fun c i (s : AC) => Jh k c v n i s) (N := n) (fun s => s) (fun i s => s = List.replicate i v ++ List.replicate (n - i) 0) (fun c s hs=>by
   show Er k _ v n n s=_;unfold Er;simp) (fun c i s hi hs=>by
   refine⟨_,?_,rfl⟩;show Er k _ v n i s=_;have hl:s.length=n:=by grind
   unfold Er;simp[qB,qE hi (by grind),aa hi,hl];rw[hs,yDy v 0 n i hi]) (s:=List.replicate n 0) hk (by simp)
 grind
theorem vF2 {k n}(hk:n<k)(hn:n≤6) v:Es k n v=some (List.replicate n (List.replicate n v)):=by
 unfold Es;rw[yIw k hn];obtain ⟨s, h1, h2⟩ := vJ (L := fun c i (s : EQ) => Ji k c n v n i s) (N := n) (fun s => s) (fun i s => s = List.replicate i (List.replicate n v) ++ List.replicate (n - i) []) (fun c s hs=>by
   show Et k _ n v n n s=_;unfold Et;simp) (fun c i s hi hs=>by
   refine⟨_,?_,rfl⟩;show Et k _ n v n i s=_;have hl:s.length=n:=by grind
   unfold Et;simp[qB,qE hi (by grind),aa hi,hl,ySy hk hn];rw[hs,yDy (List.replicate n v) [] n i hi]) (s:=List.replicate n []) hk (by simp)
 grind
def ug (a:List qX)(b:EQ)(m:AC)(p:EQ)(l:List zH):AC:=((List.range a.length).filter fun i=>gH a b m p l i).map fun(i:Nat)=>(i:Int)
structure NO (n:Nat) (l:List zH) (r2 r3:AC) (m4:EQ):Prop where
 l2:r2.length=n
 l3:r3.length=n
 l4:m4.length=n
 r4:∀i,i<n→(m4.getD i []).length=n
 more:∀i,i<n→r2.getD i 0=zO (gB i) l
 spent:∀i,i<n→r3.getD i 0=zO (gR i) l
 sent:∀i,i<n→∀j,j<n→cell m4 i j=dS l i j
def Jj (p:zH)(r:AC):AC:=
 let y0:=r.set p.2.1.toNat (zA (r.getD p.2.1.toNat 0-p.2.2.2.1))
 y0.set p.2.2.1.toNat (zA (y0.getD p.2.2.1.toNat 0+p.2.2.2.1))
def Jk (p:zH)(r:AC):AC:=bif !decide (p.2.2.2.2.1=3) then r.set p.2.1.toNat (zA (r.getD p.2.1.toNat 0+p.2.2.2.1)) else r
theorem vIf {n p}(h:yH n p){r}(hr:r.length=n){i}(hi:i<n)(hb:∀i,i<n→-4611826755915743232<r.getD i 0∧r.getD i 0<4611826755915743232):(Jj p r).getD i 0=r.getD i 0+gB i p:=by
 obtain⟨f0,f1,t0,t1,ne,a1,a2,c1,c3⟩:=h;obtain⟨f,hf⟩:∃f:Nat,p.2.1=f:=⟨p.2.1.toNat,by omega⟩;obtain⟨t,ht⟩:∃t:Nat,p.2.2.1=t:=⟨p.2.2.1.toNat,by omega⟩;have NB:f≠t:=by omega
 have ik:f<n:=by omega
 have gG:t<n:=by omega
 unfold Jj gB;simp only[hf,ht,aq];have b1:=hb f ik;have b2:=hb t gG;have key:∀x,(r.set f (zA (r.getD f 0-p.2.2.2.1))).getD x 0=if f=x then zA (r.getD f 0-p.2.2.2.1) else r.getD x 0:=by grind
 rw[fm,List.length_set,key t,if_neg NB,key i];by_cases h1:t=i
 ·subst h1;rw[if_pos (by grind),if_pos rfl,if_neg (by omega),zN (by omega) (by omega)];omega
 ·rw[if_neg (by grind),if_neg (c:=((t:Int)=i)) (by omega)];by_cases h2:f=i
  ·subst h2;rw[if_pos rfl,if_pos rfl,zN (by omega) (by omega)];omega
  omega
theorem vN9 {n p}(h:yH n p){r}(hr:r.length=n){i}(hi:i<n)(hb:∀i,i<n→-4611826755915743232<r.getD i 0∧r.getD i 0<4611826755915743232):(Jk p r).getD i 0=r.getD i 0+gR i p:=by
 obtain⟨f0,f1,t0,t1,ne,a1,a2,c1,c3⟩:=h;obtain⟨f,hf⟩:∃f:Nat,p.2.1=f:=⟨p.2.1.toNat,by omega⟩;have ik:f<n:=by omega
 have b1:=hb f ik;unfold Jk gR;simp only[hf,aq];by_cases hc:p.2.2.2.2.1=3
 ·simp_all
 ·rw[ab hc];simp only[bQ,aj];rw[fm];by_cases h2:f=i
  ·subst h2;rw[if_pos (by grind),if_pos (by grind),zN (by omega) (by omega)]
  omega
theorem UL l p i j:dS (l++[p]) i j=dS l i j+gS i j p-gS j i p:=by
 unfold dS;rw[lU,lU];dsimp only[zO];omega
theorem NP {α:Type} n i (v d:α)(h:i<n):(List.replicate n v).getD i d=v:=by
 simp_all
theorem UM {k n l}(hk:100<k)(hn:n≤6)(hl:vZ n l):∃r2 r3 m4,NQ k n l=some (r2,r3,m4)∧NO n l r2 r3 m4:=by
 have nK:=hl.2;have := vJ (L := fun c i (s : AC × AC × EQ) => Jl k c l l.length i s.1 s.2.1 s.2.2) (N := l.length) (fun s => s) (fun i s => NO n (l.take i) s.1 s.2.1 s.2.2) (fun c s hs=>by
   show Eu k _ l l.length l.length s.1 s.2.1 s.2.2=_;unfold Eu;simp) (fun c i s hi hs=>by
   have bR:yH n (l.getD i pd):=hl.1 _ (gh hi);refine⟨(Jj (l.getD i pd) s.1,Jk (l.getD i pd) s.2.1,xd (l.getD i pd) s.2.2),?_,?_⟩
   ·show Eu k _ l l.length i s.1 s.2.1 s.2.2=_;unfold Eu Jj Jk xd;simp only[qB,qE hi (by grind),qP,aq,aa hi,aj];obtain⟨f0,f1,t0,t1,ne,a1,a2,c1,c3⟩:=bR;obtain⟨f,hf⟩:∃f:Nat,(l.getD i pd).2.1=f:=⟨(l.getD i pd).2.1.toNat,by omega⟩;obtain⟨t,ht⟩:∃t:Nat,(l.getD i pd).2.2.1=t:=⟨(l.getD i pd).2.2.1.toNat,by omega⟩;have ik:f<n:=by omega
    have gG:t<n:=by omega
    have r1:=NA (x:=zA ((s.2.2.getD f []).getD t 0+(l.getD i pd).2.2.2.1)) (t:=t) hs.l4 hs.r4 ik;simp only[hf,ht,aq,qB,hs.l2,hs.l3,hs.l4,List.length_set,hs.r4 f ik,r1 t gG,aa ik,aa gG,aj];grind
   ·have aW:=hl.take i;have hp := yA6 bR hs.l4 hs.r4 (fun i' bH j' mB=>by
     rw[hs.sent i' bH j' mB];have:=Em aW i' j';omega)
    have hbM:∀i',i'<n→-4611826755915743232<s.1.getD i' 0∧s.1.getD i' 0<4611826755915743232:=fun i' bH=>by
     rw[hs.more i' bH];have:=UE aW i';omega
    have hbS:∀i',i'<n→-4611826755915743232<s.2.1.getD i' 0∧s.2.1.getD i' 0<4611826755915743232:=fun i' bH=>by
     rw[hs.spent i' bH];have:=AR aW i';omega
    refine⟨by unfold Jj;simp[hs.l2],by unfold Jk;cases decide ((l.getD i pd).2.2.2.2.1=3)<;>simp[hs.l3],hp.1,hp.2.1,fun i' bH=>?_,fun i' bH=>?_,fun i' bH j' mB=>?_⟩
    ·rw[vIf bR hs.l2 bH hbM,hs.more i' bH,←fH l i pd hi,lU];dsimp only[zO];omega
    ·rw[vN9 bR hs.l3 bH hbS,hs.spent i' bH,←fH l i pd hi,lU];dsimp only[zO];omega
    ·rw[hp.2.2 i' bH j' mB,hs.sent i' bH j' mB,←fH l i pd hi,UL]) (n:=k) (s:=(List.replicate n 0,List.replicate n 0,List.replicate n (List.replicate n 0))) (by omega) ⟨by simp,by simp,by simp,by grind,fun i hi=>by rw[NP n i _ _ hi];rfl,fun i hi=>by rw[NP n i _ _ hi];rfl,fun i hi j hj=>by
    unfold cell;rw[NP n i _ _ hi,NP n j _ _ hj];rfl⟩
 obtain⟨s,h1,h2⟩:=this;rw[List.take_of_length_le (Nat.le_refl _)] at h2;refine⟨s.1,s.2.1,s.2.2,?_,h2⟩;unfold NQ;rw[ySy (by omega) hn,vF2 (by omega) hn];simp_all
theorem vNc {k}{l:List zH}(hk:l.length<k)(hl:l.length<9223372036854775808) i:NR k l i=some (!qF (fun x=> !decide ((l.getD x pd).2.1=i)) l.length 0):=by
 obtain ⟨x, h1, h2⟩ := wy (L := fun c x => Jm k c l l.length x i) (N := l.length) (fun x => decide ((l.getD x pd).2.1 = i)) (fun c=>by
   show Ev k _ l l.length l.length i=_;unfold Ev;simp) (fun c x hx=>by
   show Ev k _ l l.length x i=_;unfold Ev UN;simp[qB,qE hx hl,aa hx]) hk
 unfold NR UO;grind
theorem yA7 {n:Nat}{l:List zH}(hl:∀p∈l,yH n p)(i:Nat):qF (fun x=> !decide ((l.getD x pd).2.1=i)) l.length 0=decide (zO (gN i) l+zO (gR i) l=0):=by
 have hN:=wz (g:=gN i) (l:=l) fun p hp=>(ND (hl p hp) i).1
 have hR:=wz (g:=gR i) (l:=l) fun p hp=>(Ny (hl p hp) i).1
 have e:zO (gN i) l+zO (gR i) l=zO (fun p:zH=>if p.2.1=(i:Int) then p.2.2.2.1 else 0) l:=by
  rw[←yOl];refine M8 fun p hp=>?_
  unfold gN gR;omega
 rw[e];have h:∀(l:List zH),(∀p∈l,yH n p)→((∀p∈l,¬p.2.1=i)↔zO (fun p:zH=>if p.2.1=(i:Int) then p.2.2.2.1 else 0) l=0):=by
  intro l
  induction l with
  |nil=>intro _;simp[zO]
  |cons q l ih=>
   intro hm;have ih:=ih (by grind);have hq:=hm q (by simp);have h0:0≤zO (fun p:zH=>if p.2.1=i then p.2.2.2.1 else 0) l:=wz fun p hp=>by
    have:=(hm p (by grind)).a1;omega
   unfold zO;by_cases c:q.2.1=i
   ·rw[if_pos c];have:=hq.a1;grind
   simp_all
 have bn:(∀p∈l,¬p.2.1=i)↔qF (fun x=> !decide ((l.getD x pd).2.1=i)) l.length 0=true:=by
  rw[gg];constructor
  ·intro h j hj
   simpa using h _ (gh hj)
  ·intro h p hp;obtain⟨j,hj,rfl⟩:=List.getElem_of_mem hp;have:=h j hj
   simpa[List.getD,hj] using this
 simp_all
def Ew (n Jn:Int):Bool:= !decide (Jn= -1)&&decide (n>Jn)
theorem yJ8 k n Jn:Ey k n Jn=some (Ew n Jn):=by
 unfold Ey Ew;grind
theorem UP k b c r s (h:-9223372036854775808≤r-s)(h':r<9223372036854775808)(hs:0≤s):xe k b c r s=some (wZ r s):=by
 unfold xe wZ wC;rw[zN h (by omega),ak];grind
def AW (b p:EQ)(l:List zH)(i:Nat)(short:Bool)(q:zH):Bool:=
 decide (q.2.1=i)&&((decide (q.2.2.2.2.1=3)&&short)||Ew (cell p i q.2.2.1.toNat+dS l i q.2.2.1.toNat) (cell b i q.2.2.1.toNat))
theorem vSh {k a b m p l}(hk:100<k)(hb:wK a b m p)(hl:vZ a.length l){r2 r3 m4}(hm:NO a.length l r2 r3 m4){i}(hi:i<a.length) bal cr res n0 (kD:0≤res∧res≤2305843009213693952):
  NS k l i bal cr res r2 r3 m4 n0 a b m p=some (!qF (fun x=> !AW b p l i (decide (n0<wZ res (zO (gR i) l))) (l.getD x pd)) l.length 0):=by
 have nK:=hl.2;have hR:=AR hl i;obtain ⟨x, h1, h2⟩ := wy (L := fun c x => Jo k c l l.length x i bal cr res r2 r3 m4 n0 a b m p) (N := l.length) (fun x => AW b p l i (decide (n0 < wZ res (zO (gR i) l))) (l.getD x pd)) (fun c=>by
   show Ez k _ l l.length l.length i bal cr res r2 r3 m4 n0 a b m p=_;unfold Ez;simp) (fun c x hx=>by
   show Ez k _ l l.length x i bal cr res r2 r3 m4 n0 a b m p=_;have bR:yH a.length (l.getD x pd):=hl.1 _ (by grind);unfold Ez;simp only[qB,qE hx (by grind),qP,aq,aa hx];generalize l.getD x (0,(0,(0,(0,(0,(0,0))))))=q at bR⊢;obtain⟨id,f,t,am,cl,st,ti⟩:=q;obtain⟨f0,f1,t0,t1,ne,a1,a2,c1,c3⟩:=bR;dsimp only at f0 f1 t0 t1 ne a1 a2 c1 c3⊢;obtain⟨t,rfl⟩:∃y:Nat,t=y:=⟨t.toNat,by omega⟩;have gG:t<a.length:=by omega
   unfold UQ AW;cases hf:decide (f=(i:Int)) with
   |false=>simp
   |true=>
    have e1:(r3.getD i 0)=zO (gR i) l:=hm.spent i hi;have e2:(m4.getD i []).getD t 0=dS l i t:=hm.sent i hi t gG;have pK:=hb.nums.net i hi t gG;have hd:=Em hl i t;have e3:zA ((p.getD i []).getD t 0+dS l i t)=cell p i t+dS l i t:=zN (by show _≤cell p i t+dS l i t;omega) (by show cell p i t+dS l i t<_;omega);simp only[qB,hm.l3,hm.l4,hm.r4 i hi,hb.pl,hb.pr i hi,hb.bl,hb.br i hi,aa hi,aa gG,aq,e1,e2,e3,UP k bal cr res (zO (gR i) l) (by omega) (by omega) hR.1,ae,yJ8];cases decide (cl=3)<;>cases decide (n0<wZ res (zO (gR i) l))<;>rfl) (n:=k) (by omega)
 unfold NS UR;grind
theorem US {α g}:∀{l:List α},(∀p∈l,0≤g p)→(0<zO g l↔∃p∈l,0<g p)
 |[],_=>by simp[zO]
 |q::l,h=>by
  have ih:=US (g:=g) (l:=l) (by grind);have h0:=wz (g:=g) (l:=l) (by grind);unfold zO;grind
theorem NT {N p}:qF p N 0=false↔∃j,j<N∧p j=false:=by
 constructor
 ·apply Classical.byContradiction;intro hn;have:qF p N 0=true:=gg.2 (by grind);simp_all
 ·rintro⟨j,hj,hp⟩
  cases h:qF p N 0 with
  |false=>rfl
  |true=>rw[gg.1 h j hj] at hp;cases hp
theorem vJ5 {a:List qX}{b p l}(hl:vZ a.length l){i}(hi:i<a.length) short:
  (!qF (fun x=> !AW b p l i short (l.getD x pd)) l.length 0)=(!qF (ud b p l i) a.length 0||(decide (zO (gN i) l>0)&&short)):=by
 have hN:=US (g:=gN i) (l:=l) fun p hp=>(ND (hl.1 p hp) i).1
 have hS:=fun j=>US (g:=gS i j) (l:=l) fun p hp=>(UD (hl.1 p hp) i j).1
 rw[Bool.eq_iff_iff];simp only[Bool.not_eq_true',Bool.or_eq_true,ba,aX];rw[NT,NT];constructor
 ·rintro⟨x,hx,hb⟩
  have bR:=hl.1 _ (gh (d:=pd) hx);have bL:=gh (d:=pd) hx;generalize l.getD x pd=q at hb bR bL;simp only[AW,Bool.not_eq_false',ba,Bool.or_eq_true,aX] at hb;obtain⟨hf,hb⟩:=hb;rcases hb with⟨hc,hs⟩|ho
  ·refine .inr ⟨hN.2 ⟨q,bL,?_⟩,hs⟩;unfold gN;rw[if_pos ⟨hf,hc⟩];have:=bR.a1;omega
  ·have h1:=bR.t0;have h2:=bR.t1;refine .inl ⟨q.2.2.1.toNat,by omega,?_⟩;unfold ud;have lE:zO (gS i q.2.2.1.toNat) l>0:=(hS _).2 ⟨q,bL,by
    unfold gS;rw[if_pos (by grind)];have:=bR.a1;omega⟩
   rw[aa lE];unfold Ew at ho;simp_all
 ·rintro(⟨j,hj,hb⟩|⟨hp,hs⟩)
  ·simp only[ud,Bool.not_eq_false',ba,aX] at hb;obtain⟨lE,ho⟩:=hb;obtain⟨q,hq,hg⟩:=(hS j).1 lE;obtain⟨x,hx,rfl⟩:=List.getElem_of_mem hq;refine⟨x,hx,?_⟩;have e:l.getD x pd=l[x]:=by simp[List.getD,hx]
   rw[e];unfold gS at hg;by_cases c:l[x].2.1=(i:Int)∧l[x].2.2.1=(j:Int)
   ·unfold AW Ew;simp_all
   ·rw[if_neg c] at hg;omega
  ·obtain⟨q,hq,hg⟩:=hN.1 hp;obtain⟨x,hx,rfl⟩:=List.getElem_of_mem hq;refine⟨x,hx,?_⟩;have e:l.getD x pd=l[x]:=by simp[List.getD,hx]
   rw[e];unfold gN at hg;by_cases c:l[x].2.1=(i:Int)∧l[x].2.2.2.2.1=3
   ·unfold AW;simp_all
   ·rw[if_neg c] at hg;omega
theorem vY1 {k a b m p l}(hk:100<k)(hb:wK a b m p)(hl:vZ a.length l){r2 r3 m4}(hm:NO a.length l r2 r3 m4){i}(hi:i<a.length)(hs:decide (zO (gN i) l+zO (gR i) l=0)=false):
  NU k r2 r3 m4 a b m p i l=some (gH a b m p l i):=by
 have h6:=hb.n6;have nK:=hl.2;have hB:=UE hl i;have hx:=hb.acct i hi;simp only[jY,ba,aX] at hx;have AU:-4611686018427387904<(a.getD i ad).1∧(a.getD i ad).1<4611686018427387904∧0≤(a.getD i ad).2.1∧(a.getD i ad).2.1≤2305843009213693952∧0≤(a.getD i ad).2.2∧(a.getD i ad).2.2≤2305843009213693952:=by grind
 have pK:=w6 (NJ hb hi) a.length;have e1:r2.getD i 0=zO (gB i) l:=hm.more i hi;unfold NU;simp only[qB,aa hi,aj,aq,hm.l2,hm.l4,e1,hm.r4 i hi];rw[vG3 (by omega) (by omega) hi hb.pl (hb.pr i hi) (NJ hb hi)];rw[zN (x:=(a.getD i ad).1+(a.getD i ad).2.1) (by omega) (by omega),zN (x:=(a.getD i ad).1+(a.getD i ad).2.1+zO (gB i) l) (by omega) (by omega)];unfold gH;rw[hs];cases hn:decide ((a.getD i ad).1+(a.getD i ad).2.1+zO (gB i) l<0) with
 |true=>simp
 |false=>
  obtain ⟨s, q1, q2⟩ := vJ (L := fun c j (s : Int) => AY k c l s (m4.getD i []) a.length j r2 r3 m4 a b m p i (a.getD i ad).1 (a.getD i ad).2.1 (a.getD i ad).2.2 ((a.getD i ad).1 + (a.getD i ad).2.1 + zO (gB i) l)) (N := a.length) (fun s => (l, s, r2, r3, m4, a, b, m, p, (i : Int), (a.getD i ad).1, (a.getD i ad).2.1, (a.getD i ad).2.2, (a.getD i ad).1 + (a.getD i ad).2.1 + zO (gB i) l)) (fun j s => s = qG (cell p i) a.length + qG (dS l i) j) (fun c s hs=>by
    show EA k _ l s (m4.getD i []) a.length a.length r2 r3 m4 a b m p i (a.getD i ad).1 (a.getD i ad).2.1 (a.getD i ad).2.2 ((a.getD i ad).1+(a.getD i ad).2.1+zO (gB i) l)=_;unfold EA;simp) (fun c j s hj hs=>by
    refine⟨qG (cell p i) a.length+qG (dS l i) (j+1),?_,rfl⟩;show EA k _ l s (m4.getD i []) a.length j r2 r3 m4 a b m p i (a.getD i ad).1 (a.getD i ad).2.1 (a.getD i ad).2.2 ((a.getD i ad).1+(a.getD i ad).2.1+zO (gB i) l)=_;have e2:(m4.getD i []).getD j 0=dS l i j:=hm.sent i hi j hj;have CY:=w6 (fun j=>Em hl i j) j;have Dn:=Em hl i j;unfold EA;simp only[qB,qE hj (by grind),qP,aq,hm.r4 i hi,aa hj,aj,e2];rw[hs,zN (x:=qG (cell p i) a.length+qG (dS l i) j+dS l i j) (by omega) (by omega),Int.add_assoc];rfl) (n:=k) (s:=qG (cell p i) a.length) (by omega) (by show _=_+0;omega)
  have q1':AY k k l (qG (cell p i) a.length) (m4.getD i []) a.length 0 r2 r3 m4 a b m p i (a.getD i ad).1 (a.getD i ad).2.1 (a.getD i ad).2.2 ((a.getD i ad).1+(a.getD i ad).2.1+zO (gB i) l)=_:=q1;simp only[ak,ae];rw[show AY k k l (qG (cell p i) a.length) (m4.getD i []) a.length 0 r2 r3 m4 a b m p i (a.getD i (0,(0,0))).1 (a.getD i (0,(0,0))).2.1 (a.getD i (0,(0,0))).2.2 ((a.getD i ad).1+(a.getD i ad).2.1+zO (gB i) l)=_ from q1'];simp only[ae,qB,hb.ml,aa hi,aj,aq,yJ8];rw[vSh hk hb hl hm hi _ _ _ _ (by grind),vJ5 hl hi,q2,yKd hl.1 i hi];have en:qG (cell p i) a.length+-zO (gB i) l=qG (cell p i) a.length-zO (gB i) l:=by omega
  rw[en];unfold Ew;grind
theorem vBi f i:((List.range (i+1)).filter f).map (fun(x:Nat)=>(x:Int))=(((List.range i).filter f).map fun(x:Nat)=>(x:Int))++(bif f i then[(i:Int)] else[]):=by
 rw[List.range_succ,List.filter_append,List.map_append];grind
theorem UT {k a b m p l}(hk:100<k)(hb:wK a b m p)(hl:vZ a.length l):AZ k a b m p l=some (ug a b m p l):=by
 have h6:=hb.n6;have nK:=hl.2;obtain⟨r2,r3,m4,g1,hm⟩:=UM hk h6 hl;obtain ⟨r, h1, h2⟩ := vJ (L := fun c i (r : AC) => EB k c l a.length i a b m p r2 r3 m4 r) (N := a.length) (fun r => r) (fun i r => r = ((List.range i).filter fun i => gH a b m p l i).map fun (x : Nat) => (x : Int)) (fun c r hr=>by
   show EC k _ l a.length a.length a b m p r2 r3 m4 r=_;unfold EC;simp) (fun c i r hi hr=>by
   have hle:r.length≤i:=by
    grind
   have aO:zP (r.length+1) 8=true:=qJ (by omega) (by omega);refine⟨_,?_,rfl⟩;show EC k _ l a.length i a b m p r2 r3 m4 r=_;unfold EC;simp only[qE hi (by grind),vNc (show l.length<k by omega) (by omega)];rw[yA7 hl.1,vBi,←hr];cases hz:decide (zO (gN i) l+zO (gR i) l=0) with
   |true=>
    have:gH a b m p l i=false:=by unfold gH;simp_all
    simp_all
   |false=>
    rw[vY1 hk hb hl hm hi hz];grind) (n:=k) (s:=[]) (by omega) rfl
 unfold AZ;rw[g1];simp;have ga:EB k k l a.length 0 a b m p r2 r3 m4 []=some r:=h1;rw[ga,h2];rfl
theorem yUh {k a b m p l}(hk:100<k)(hb:wK a b m p)(hl:vZ a.length l):ue k a b m p l=some (ug a b m p l):=by
 have h6:=hb.n6;obtain ⟨r, h1, h2⟩ := vJ (L := fun c i (r : AC) => uf k c l i a b m p r) (N := a.length) (fun r => r) (fun i r => r = ((List.range i).filter fun i => gH a b m p l i).map fun (x : Nat) => (x : Int)) (fun c r hr=>by
   show sm k _ l a.length a b m p r=_;unfold sm;simp) (fun c i r hi hr=>by
   have hle:r.length≤i:=by
    grind
   have aO:zP (r.length+1) 8=true:=qJ (by omega) (by omega);refine⟨_,?_,rfl⟩;show sm k _ l i a b m p r=_;unfold sm;simp[qE hi (by grind),yWw hk hb hl hi];rw[vBi,←hr];grind) (s:=[]) (show a.length<k by omega) rfl
 unfold ue;have ga:uf k k l 0 a b m p []=some r:=h1;rw[ga,h2];rfl
theorem vXf {a b m p l}:decide (((ug a b m p l).length:Int)=0)=qF (fun i=> !gH a b m p l i) a.length 0:=by
 unfold ug;cases h:qF (fun i=> !gH a b m p l i) a.length 0 with
 |true=>
  rw[gg] at h;simp_all
 |false=>
  apply ab;intro h0;obtain⟨j,hj,hs⟩:=NT.1 h;simp_all
theorem vHi {k}{l:List zH}(hk:l.length<k)(hl:l.length<9223372036854775808)(a:List qX) b m p:NV k l a b m p=some (!nJ a.length l):=by
 obtain ⟨x, h1, h2⟩ := wy (L := fun c i => Jp k c l l.length i a b m p) (N := l.length) (fun i => !pJ a.length (l.getD i pd)) (fun c=>by
  show ED k _ l l.length l.length a b m p=_;unfold ED;simp) (fun c i hi=>by
  show ED k _ l l.length i a b m p=_;unfold ED UU;simp[qB,qE hi hl,aa hi,Nw]) hk
 unfold NV UW;unfold nJ;grind
theorem vTa {k a b m p}{l:List zH}(hk:100<k)(hb:wK a b m p)(hl:l.length≤80):A0 k a b m p l=some (xh a b m p l):=by
 unfold A0 xh;have e:decide ((l.length:Int)≤64)=decide (l.length≤64):=by
  grind
 rw[e,vHi (by omega) (by omega)];cases bP:decide (l.length≤64) with
 |false=>simp
 |true=>
  cases hm:nJ a.length l with
  |false=>rfl
  |true=>
   have hr:vZ a.length l:=⟨AQ.1 hm,by grind⟩;simp only[aj,ae,aA,bQ,UT hk hb hr,vXf,Bool.true_and]
def qK (l:List zH):Prop:=List.Pairwise (fun p q=>p.1≠q.1) l
theorem qK.filter {l}(h:qK l) f:qK (l.filter f):=List.Pairwise.filter f h
theorem A2 {α:Type} f (l:List α) i d (h:i<l.length):(l.take (i+1)).filter f=(l.take i).filter f++(bif f (l.getD i d) then[l.getD i d] else[]):=by
 rw[←fH l i d h,List.filter_append];rfl
theorem Jq {α X:Type}(d:α){l:List α}{L:Nat→Int→List α→Option X}(f:α→Bool)(e:List α→X)(bM:∀n s,L (n+1) (l.length:Int) s=some (e s))
  (aK:∀n i s,i<l.length→s.length≤i→L (n+1) (i:Int) s=L n ((i+1:Nat):Int) (bif f (l.getD i d) then s++[l.getD i d] else s)) {n:Nat} (hn:l.length<n):
  L n 0 []=some (e (l.filter f)):=by
 obtain ⟨s', h1, h2⟩ := vJ (L := L) (N := l.length) e (fun i s => s = (l.take i).filter f) (fun n s _ => bM n s) (fun n i s hi hs=>by
  refine⟨_,aK n i s hi ?_,?_⟩
  ·subst hs;have:=List.length_filter_le f (l.take i);rw[List.length_take] at this;omega
  ·subst hs;rw[A2 f l i d hi];cases f (l.getD i d)<;>simp) (s:=[]) hn (by simp)
 rw[h1,h2,List.take_length]
def qO (l:List zH):Prop:=l.length≤1000
theorem nL {n}(h:n≤1000):zP (n+1) 56=true:=qJ (by omega) (by omega)
def jz (t:Int)(p:zH):Bool:=bif decide (t≥p.2.2.2.2.2.1) then decide (t≤p.2.2.2.2.2.2) else false
theorem UX {k l}(hk:l.length<k)(hl:qO l) t:EE k l t=some (l.filter (jz t)):=by
 unfold EE UY;have := Jq pd (L := fun n i s => Jr k n l l.length i t s) (jz t) id (fun n s=>by
  show EF k _ l l.length l.length t s=_;unfold EF;simp) (fun n i s hi hs=>by
  show EF k _ l l.length i t s=_;unfold EF UZ U0;unfold qO at hl;simp[qB,qE hi (by grind),nL (show s.length≤1000 by omega)];unfold jz;grind) hk
 simp_all
theorem U1 {k l}(hk:l.length<k)(hl:qO l) t:EG k l t=some (l.filter (jz t)):=by
 unfold EG;have := Jq pd (L := fun n i s => Js k n l t i s) (jz t) id (fun n s=>by
  show EH k _ l t l.length s=_;unfold EH;simp) (fun n i s hi hs=>by
  show EH k _ l t i s=_;unfold EH U2;unfold qO at hl;simp[qB,qE hi (by grind),nL (show s.length≤1000 by omega)];unfold jz;grind) hk
 simp_all
def wU (f:Int)(p:zH):Bool:=decide (p.2.1=f)
theorem NW {k l}(hk:l.length<k)(hl:qO l) f:uh k l f=some (l.filter (wU f)):=by
 unfold uh;have := Jq pd (L := fun n i s => Jt k n l f i s) (wU f) id (fun n s=>by
  show EI k _ l f l.length s=_;unfold EI;simp) (fun n i s hi hs=>by
  show EI k _ l f i s=_;unfold EI;unfold qO at hl;simp[qB,qE hi (by grind),nL (show s.length≤1000 by omega)];unfold wU;grind) hk
 simp_all
def NX (r:List zH)(p:zH):Bool:=qF (fun x=>decide (((r.filter (wU p.2.1)).getD x pd).2.2.2.2.1=3)) (r.filter (wU p.2.1)).length 0
def NY (r:List zH)(p:zH):Bool:=decide ((r.filter (wU p.2.1)).getD 0 pd=p)
def sn (r:List zH)(p:zH):Bool:=NY r p||NX r p
def vS (l:List zH)(t:Int):List zH:=(l.filter (jz t)).filter (sn (l.filter (jz t)))
theorem eq7 (p q:zH):((decide (p.1=q.1))&&((decide (p.2.1=q.2.1))&&((decide (p.2.2.1=q.2.2.1))&&((decide (p.2.2.2.1=q.2.2.2.1))&&((decide (p.2.2.2.2.1=q.2.2.2.2.1))&&((decide (p.2.2.2.2.2.1=q.2.2.2.2.2.1))&&(decide (p.2.2.2.2.2.2=q.2.2.2.2.2.2))))))))=decide (p=q):=by
 grind
theorem vM4 {k n:Nat}(s7:Int)(r0 r1 r2:List zH)(hk:r2.length<n)(hl:qO r2):
  EJ k n s7 true 0 r0 r1 r2=some (s7,qF (fun x=>decide ((r2.getD x pd).2.2.2.2.1=3)) r2.length 0,r0,r1,r2):=by
 obtain ⟨s', h1, h2⟩ := vJ (L := fun n i s => EJ k n s7 s i r0 r1 r2) (N := r2.length) (fun s => (s7, s, r0, r1, r2)) (fun i s => s = qF (fun x => decide ((r2.getD x pd).2.2.2.2.1 = 3)) i 0) (fun n s _=>by
  show EK k _ s7 s r2.length r0 r1 r2=_;unfold EK;simp only [qP, ab (Nat.lt_irrefl _), ak]) (fun n i s hi hs=>by
  refine⟨_,?_,rfl⟩;show EK k _ s7 s i r0 r1 r2=_;unfold EK;unfold qO at hl;simp only[qB,qE hi (show r2.length<9223372036854775808 by omega),qP,aq,aa hi,aj];have e:qF (fun x=>decide ((r2.getD x pd).2.2.2.2.1=3)) (i+1) 0=(s&&decide ((r2.getD i pd).2.2.2.2.1=3)):=by
   rw[Bool.eq_iff_iff,hs];simp only[gg,ba,aX];constructor
   ·intro h;exact⟨fun j hj=>h j (by omega),h i (by omega)⟩
   ·rintro⟨h1,h2⟩ j hj
    by_cases c:j=i
    ·subst c;exact h2
    ·exact h1 j (by omega)
  rw[e];cases s<;>rfl) (s:=true) hk rfl
 exact h1.trans (by rw[h2])
theorem yNj {k l}(hk:l.length<k)(hl:qO l) t:Ju k l t=some (vS l t):=by
 unfold Ju;rw[U1 hk hl];unfold vS;have dM:(l.filter (jz t)).length≤l.length:=by grind
 generalize l.filter (jz t)=r at dM;unfold qO at hl;have := Jq pd (L := fun n i s => Jv k n i r s) (l := r) (sn r) id (fun n s=>by
  show EL k _ r.length r s=_;unfold EL;simp) (fun n i s hi hs=>by
  show EL k _ i r s=_;unfold EL;have vq:(r.filter (wU (r.getD i pd).2.1)).length≤r.length:=by grind
  have tu:0<(r.filter (wU (r.getD i pd).2.1)).length:=by
   apply List.length_pos_of_mem (a:=r.getD i pd);rw[List.mem_filter];exact⟨gh hi,by simp[wU]⟩
  have U3:=NW (k:=k) (l:=r) (by omega) (show r.length≤1000 by omega) (r.getD i pd).2.1;have b0:∀n:Nat,zB 0 n=decide (0<n):=fun n=>qB 0 n
  have e7:=eq7 ((r.filter (wU (r.getD i pd).2.1)).getD 0 pd) (r.getD i pd);simp only[aq];rw[U3];simp only[ae];rw[vM4 ((i:Nat):Int) r s _ (by omega) (show _≤1000 by omega)];simp[b0,qB,qE hi (by grind),nL (show s.length≤1000 by omega)];unfold sn NY NX;grind) (show r.length<k by omega)
 simp_all
def A3 (f:Int)(q:zH):Bool:=decide (q.2.1=f)&& !decide (q.2.2.2.2.1=3)
theorem U4 {k}{l:List zH}(hk:l.length<k)(hl:l.length<9223372036854775808) i f t a c s e:
  NZ k l i f t a c s e=some (!qF (fun x=> !A3 f (l.getD x pd)) l.length 0):=by
 obtain ⟨x, h1, h2⟩ := wy (L := fun n i' => Jw k n l l.length i' i f t a c s e) (N := l.length) (fun x => A3 f (l.getD x pd)) (fun n=>by
  show EM k _ l l.length l.length i f t a c s e=_;unfold EM;simp) (fun n j hj=>by
  show EM k _ l l.length j i f t a c s e=_;unfold EM U5;simp[qB,qE hj hl];unfold A3;grind) hk
 unfold NZ U6;grind
theorem vTt (r:List zH)(p:zH):NX r p=true↔∀q∈r,q.2.1=p.2.1→q.2.2.2.2.1=3:=by
 unfold NX;rw[gg];constructor
 ·intro h q hq he;have hm:q∈r.filter (wU p.2.1):=List.mem_filter.2 ⟨hq,by simp[wU,he]⟩;obtain⟨i,hi,e⟩:=List.getElem_of_mem hm;have:=h i hi;rw[List.getD_eq_getElem?_getD,List.getElem?_eq_getElem hi,e] at this
  simpa using this
 ·intro h j hj;have hm:=gh (d:=pd) hj;rw[List.mem_filter] at hm;have:=h _ hm.1 (by simpa[wU] using hm.2)
  simpa using this
theorem U7 (r:List zH)(f:Int):qF (fun x=> !A3 f (r.getD x pd)) r.length 0=true↔∀q∈r,q.2.1=f→q.2.2.2.2.1=3:=by
 rw[gg];constructor
 ·intro h q hq he;obtain⟨i,hi,e⟩:=List.getElem_of_mem hq;have:=h i hi;rw[List.getD_eq_getElem?_getD,List.getElem?_eq_getElem hi,e] at this
  simpa[A3,he] using this
 ·intro h j hj;have:=h _ (gh (d:=pd) hj);simp only[A3,Bool.not_eq_true',Bool.and_eq_false_iff,Bool.not_eq_false',aX,decide_eq_false_iff_not];by_cases c:(r.getD j pd).2.1=f
  ·exact .inr (this c)
  ·exact .inl c
theorem qK.split {r}(h:qK r){i}(hi:i<r.length):∀q∈r.take i,q.1≠(r.getD i pd).1:=by
 intro q hq;have e:r.take (i+1)=r.take i++[r.getD i pd]:=(fH r i pd hi).symm;have hs:qK (r.take (i+1)):=List.Pairwise.sublist (by grind) h;rw[e] at hs;exact(List.pairwise_append.1 hs).2.2 q hq _ (by simp)
theorem N0 {α:Type} r i (d:α)(hi:i<r.length):r=r.take i++r.getD i d::r.drop (i+1):=by
 simp_all
theorem vEp {r}(h:qK r){i}(hi:i<r.length):NY r (r.getD i pd)= !(r.take i).any (wU (r.getD i pd).2.1):=by
 unfold NY;have e:∀f,wU f (r.getD i pd)=true→r.filter (wU f)=(r.take i).filter (wU f)++r.getD i pd::(r.drop (i+1)).filter (wU f):=by
  intro f hf;have:=congrArg (List.filter (wU f)) (N0 r i pd hi);grind
 have e:=e (r.getD i pd).2.1 (by simp[wU]);rw[e];cases ha:(r.take i).any (wU (r.getD i pd).2.1) with
 |false=>
  have:(r.take i).filter (wU (r.getD i pd).2.1)=[]:=by
   simp_all
  grind
 |true=>
  cases hf:(r.take i).filter (wU (r.getD i pd).2.1) with
  |nil=>
   rw[List.filter_eq_nil_iff] at hf;grind
  |cons q l=>
   have hq:q∈r.take i:=(List.mem_filter.1 (hf▸List.mem_cons_self ..:q∈(r.take i).filter _)).1;have:=h.split hi q hq;grind
theorem vIm {r}(h:qK r){i}(hi:i<r.length):
  sn r (r.getD i pd)=(!(r.take i).any (wU (r.getD i pd).2.1)||(decide ((r.getD i pd).2.2.2.2.1=3)&&qF (fun x=> !A3 (r.getD i pd).2.1 (r.getD x pd)) r.length 0)):=by
 unfold sn;rw[vEp h hi]
 congr 1
 rw[Bool.eq_iff_iff,vTt,ba,U7,aX];grind
theorem lookup_cons (f g:Int)(l:List (Int×Bool)):(List.lookup f ((g,true)::l)).getD false=(decide (f=g)||(List.lookup f l).getD false):=by
 rw[List.lookup_cons];by_cases c:f=g
 ·subst c;simp
 ·have:(f==g)=false:=by simpa using c
  rw[this];simp[c]
theorem yQe {k:Nat}{l:List zH}(hk:l.length<k)(hl:qO l)(hd:qK l)(t:Int):Jx k l t=some (vS l t):=by
 unfold Jx;rw[UX hk hl];simp only[ae];unfold vS;have dM:(l.filter (jz t)).length≤l.length:=List.length_filter_le _ _;have vt:=hd.filter (jz t);generalize l.filter (jz t)=r at dM vt;unfold qO at hl;unfold U8;obtain ⟨s', h1, h2, h3⟩ := vJ (L := fun n i (s : List (Int × Bool) × List zH) => EN k n r r.length i s.1 r s.2) (N := r.length) (fun s => (s.1, r, s.2)) (fun i s => (∀ f, (List.lookup f s.1).getD false = (r.take i).any (wU f)) ∧ s.2 = (r.take i).filter (sn r)) (fun n s _=>by
  show EO k _ r r.length r.length s.1 r s.2=_;unfold EO;simp only [qP, ab (Nat.lt_irrefl _), ak]) (fun n i s hi hs=>by
  refine⟨(((r.getD i pd).2.1,true)::s.1,bif sn r (r.getD i pd) then s.2++[r.getD i pd] else s.2),?_,?_,?_⟩
  ·show EO k _ r r.length i s.1 r s.2=_;unfold EO U9;have hlen:s.2.length≤i:=by
    rw[hs.2];have:=List.length_filter_le (sn r) (r.take i);rw[List.length_take] at this;omega
   have hc:=U4 (k:=k) (l:=r) (by omega) (by omega) (r.getD i pd).1 (r.getD i pd).2.1 (r.getD i pd).2.2.1 (r.getD i pd).2.2.2.1 (r.getD i pd).2.2.2.2.1 (r.getD i pd).2.2.2.2.2.1 (r.getD i pd).2.2.2.2.2.2;have tT:=hs.1 (r.getD i pd).2.1;have hp:=vIm vt hi;simp only[pd] at hc tT hp⊢;simp only[qB,qE hi (show r.length<9223372036854775808 by omega),qP,aq,aa hi,aj,nL (show s.2.length≤1000 by omega)];rw[hc,tT,hp];generalize (r.take i).any _=x;generalize qF _ _ 0=y;generalize decide ((r.getD i (0,(0,(0,(0,(0,(0,0))))))).2.2.2.2.1=3)=z;cases x<;>cases y<;>cases z<;>rfl
  ·intro f;rw[lookup_cons,hs.1 f,←fH r i pd hi,List.any_append,Bool.or_comm]
   congr 1
   simp only[List.any_cons,List.any_nil,Bool.or_false,wU];rw[Bool.eq_iff_iff];simp only[aX];exact eq_comm
  ·show(bif sn r (r.getD i pd) then s.2++[r.getD i pd] else s.2)=_;rw[hs.2,A2 _ _ _ pd hi];cases sn r (r.getD i pd)<;>simp) (s:=([],[])) (show r.length<k by omega) ⟨fun f=>by simp,by simp⟩
 have ga:EN k k r r.length 0 [] r []=some (s'.1,r,s'.2):=h1;rw[ga,h3,List.take_length];rfl
def xi (p:Nat→Bool):Nat→Nat→Option Nat
 |0,_=>none
 |c+1,i=>bif p i then some i else xi p c (i+1)
def Va:Option Nat→Unit⊕Int
 |some x=>.inr (x:Int)
 |none=>.inl ()
theorem Vb {L:Nat→Int→Option (Unit⊕Int)}{N:Nat} bad (bM:∀n,L (n+1) (N:Int)=some (.inl ()))
  (aK:∀n i,i<N→L (n+1) (i:Int)=bif bad i then some (.inr (i:Int)) else L n ((i+1:Nat):Int)):
  ∀c i n,i+c=N→c<n→L n (i:Int)=some (Va (xi bad c i))
 |0,i,n,h,hn=>by
  obtain⟨n,rfl⟩:∃m,n=m+1:=⟨n-1,by omega⟩;have:i=N:=by omega
  subst this;exact bM n
 |c+1,i,n,h,hn=>by
  obtain⟨n,rfl⟩:∃m,n=m+1:=⟨n-1,by omega⟩;rw[aK n i (by omega)];unfold xi;cases hb:bad i with
  |true=>rfl
  |false=>
   exact Vb bad bM aK c (i+1) n (by omega) (by omega)
theorem yXk {p}:∀{c i x},xi p c i=some x→i≤x∧x<i+c∧p x=true∧∀j,i≤j→j<x→p j=false
 |c+1,i,x,h=>by
  unfold xi at h;cases hp:p i with
  |true=>
   grind
  |false=>
   rw[hp] at h;obtain⟨h1,h2,h3,h4⟩:=yXk h;grind
theorem yTa {p}:∀{c i},xi p c i=none→∀j,i≤j→j<i+c→p j=false
 |0,_,_=>by grind
 |c+1,i,h=>by
  unfold xi at h;cases hp:p i with
  |true=>
   simp_all
  |false=>
   rw[hp] at h;intro j j1 j2;by_cases e:j=i
   ·simp_all
   ·exact yTa h j (by omega) (by omega)
def vW (l:List zH)(id:Int):Option Nat:=xi (fun x=>decide ((l.getD x pd).1=id)) l.length 0
def j0 (l:List zH)(id:Int):Int:=match vW l id with|some x=>(x:Int)|none=>-1
theorem kI {l id x}(h:vW l id=some x):x<l.length∧(l.getD x pd).1=id:=by
 obtain⟨_,h2,h3,_⟩:=yXk h;simp_all
theorem vYx {l id}(h:vW l id=none):∀p∈l,p.1≠id:=by
 intro p hp e;obtain⟨i,hi,e'⟩:=List.getElem_of_mem hp;have:=yTa h i (by omega) (by omega);simp_all
theorem N1 {l p}(h:p∈l):∃x,vW l p.1=some x:=by
 cases e:vW l p.1 with
 |some x=>simp
 |none=>exact absurd rfl (vYx e p h)
theorem N2 {k}{l:List zH}(hk:l.length<k)(hl:l.length<9223372036854775808) id:mQ k l id=some (j0 l id):=by
 have := Vb (L := fun n i => EP k n l id i) (N := l.length) (fun x => decide ((l.getD x pd).1 = id)) (fun n=>by
  show ER k _ l id l.length=_;unfold ER;simp) (fun n j hj=>by
  show ER k _ l id j=_;unfold ER;simp[qB,qE hj hl,aa hj]) l.length 0 k (by omega) hk
 have h1:EP k k l id 0=some (Va (vW l id)):=this;unfold mQ j0;rw[h1];cases vW l id<;>rfl
theorem A4 {k}{l:List zH}(hk:l.length<k)(hl:l.length<9223372036854775808) id:nM k l id=some (j0 l id):=by
 have := Vb (L := fun n i => ES k n l l.length i id) (N := l.length) (fun x => decide ((l.getD x pd).1 = id)) (fun n=>by
  show ET k _ l l.length l.length id=_;unfold ET;simp) (fun n j hj=>by
  show ET k _ l l.length j id=_;unfold ET Vc;simp only[qB,qE hj hl,qP,aa hj];rfl) l.length 0 k (by omega) hk
 have h1:ES k k l l.length 0 id=some (Va (vW l id)):=this;unfold nM Vd j0;rw[h1];cases vW l id<;>rfl
def yF (l:List zH)(x:Nat):List zH:=l.take x++l.drop (x+1)
theorem nN {l x}(h:x<l.length):(yF l x).length=l.length-1:=by
 unfold yF;grind
theorem ui l x:List.Sublist (yF l x) l:=by
 unfold yF
 conv=>rhs;rw[←List.take_append_drop x l]
 grind
theorem qK.cut {l}(h:qK l) x:qK (yF l x):=List.Pairwise.sublist (ui l x) h
theorem yJu k {l}{x:Nat}(hx:x<l.length)(hl:qO l):Jy k l x ((x+1:Nat):Int)=some (yF l x):=by
 unfold Jy;have c1:(decide ((0:Int)≤(x:Int)))=true:=by simp
 have c2:decide ((x:Int)≤((x+1:Nat):Int))=true:=aa (by omega);have c3:decide (((x+1:Nat):Int)≤(l.length:Int))=true:=aa (by omega);have c4:decide ((l.length:Int)≤(l.length:Int))=true:=by simp
 have c5:decide ((x:Int)=((x+1:Nat):Int))=false:=ab (by omega);have c6:decide ((x:Int)≤(l.length:Int))=true:=aa (by omega);have c7:decide ((0:Int)≤((x+1:Nat):Int))=true:=aa (by omega);have c8:Nat.ble (x-0) (0+(x+1))=true:=by simp
 simp only[aq,c1,c2,c3,c4,c5,c6,c7,c8,ak];have e0:x-0+(l.length-(x+1))=l.length-1:=by omega
 have e1:List.take (x-0) l++qR l (0+(x+1)) (l.length-(x+1))=yF l x:=by
  unfold qR yF;rw[Nat.sub_zero,Nat.zero_add]
  congr 1
  rw[List.take_of_length_le];rw[List.length_drop];exact Nat.le_refl _
 have e2:(qR (yF l x++List.drop (l.length-1) l) 0 (l.length-1))=yF l x:=by
  unfold qR;rw[List.drop_zero,List.take_append_of_le_length (by rw[nN hx];exact Nat.le_refl _),List.take_of_length_le (by rw[nN hx];exact Nat.le_refl _)]
 have e3:(yF l x++List.drop (l.length-1) l).length=l.length:=by
  rw[List.length_append,List.length_drop,nN hx];omega
 have c9:decide ((0:Int)≤((yF l x).length:Int))=true:=by simp
 have N3:decide (((yF l x).length:Int)≤(l.length:Int))=true:=by grind
 have A5:decide ((l.length:Int)≤((l.length-0:Nat):Int))=true:=by simp
 have e4:List.take (0+(yF l x).length) (yF l x++List.drop (l.length-1) l)=yF l x:=by
  rw[Nat.zero_add,List.take_append_of_le_length (Nat.le_refl _),List.take_of_length_le (Nat.le_refl _)]
 simp only[e0,e1,e2,e3,c9,N3,A5,e4,Bool.and_true,aj];rw[List.append_assoc,List.take_append_of_le_length (by rw[nN hx];exact Nat.le_refl _),List.take_of_length_le (by rw[nN hx];exact Nat.le_refl _)]
def il (l:List zH)(id:Int):List zH×Int×Int×Int×Int×Int×Int×Int×Int:=match vW l id with
 |some x=>(yF l x,(l.getD x pd).1,(l.getD x pd).2.1,(l.getD x pd).2.2.1,(l.getD x pd).2.2.2.1,(l.getD x pd).2.2.2.2.1,(l.getD x pd).2.2.2.2.2.1,(l.getD x pd).2.2.2.2.2.2,0)
 |none=>(l,0,0,0,0,0,0,0,4)
theorem A6 {k l}(hk:l.length<k)(hl:qO l) id:pM k l id=some (il l id):=by
 unfold qO at hl;unfold pM;rw[A4 hk (by omega)];unfold j0 il;cases hp:vW l id with
 |none=>rfl
 |some x=>
  have hx:=(kI hp).1;have e1:decide ((x:Int)<0)=false:=by simp
  have e2:xj k l=some l:=by
   unfold xj;rw[qJ (by omega) (by omega)];rfl
  simp only[ae,e1,ak,e2,qE hx (by grind),yJu k hx hl,qB,aa hx,aj,aq]
def jD (q p:zH):Bool:=decide (q.2.1<p.2.1)||(decide (q.2.1=p.2.1)&&decide (q.2.2.2.2.1≤p.2.2.2.2.1))
def j3 (q p:zH):Bool:=decide (q.2.1<p.2.1)||(decide (q.2.1=p.2.1)&&decide (q.2.2.2.2.1<p.2.2.2.2.1))
theorem vCf n x y:N4 (n+3) [x,y]=some (if x=0 then y else x):=by
 have key:∀n:Nat,Jz (n+3) (n+3) 0 [x,y] 2 0=bif !decide (x=0) then some (.inr x) else bif !decide (y=0) then some (.inr y) else some (.inl 0):=fun n=>rfl
 unfold N4;grind
theorem vQb k a b:JA k a b=some (if a<b then-1 else if a>b then 1 else 0):=by
 unfold JA N5;grind
theorem Ve {k}(hk:3≤k) q p:∃x,EU k q.1 q.2.1 q.2.2.1 q.2.2.2.1 q.2.2.2.2.1 q.2.2.2.2.2.1 q.2.2.2.2.2.2 p.1 p.2.1 p.2.2.1 p.2.2.2.1 p.2.2.2.2.1 p.2.2.2.2.2.1 p.2.2.2.2.2.2=some x∧decide (x≤0)=jD q p∧decide (x<0)=j3 q p:=by
 obtain⟨n,rfl⟩:∃n,k=n+3:=⟨k-3,by omega⟩;unfold EU;simp only[vQb,vCf];refine⟨_,rfl,?_,?_⟩
 ·unfold jD;grind
 ·unfold j3;grind
def JB (ok:Nat→Bool):Nat→Nat→Nat
 |0,i=>i
 |c+1,i=>bif ok i then JB ok c (i+1) else i
theorem EV {X:Type}{L:Nat→Int→Option X}{N:Nat} ok (e:Nat→X)(bM:∀n,L (n+1) (N:Int)=some (e N))
  (aK:∀n i,i<N→L (n+1) (i:Int)=bif ok i then L n ((i+1:Nat):Int) else some (e i)):∀c i n,i+c=N→c<n→L n (i:Int)=some (e (JB ok c i))
 |0,i,n,h,hn=>by
  obtain⟨n,rfl⟩:∃m,n=m+1:=⟨n-1,by omega⟩;have:i=N:=by omega
  subst this;exact bM n
 |c+1,i,n,h,hn=>by
  obtain⟨n,rfl⟩:∃m,n=m+1:=⟨n-1,by omega⟩;rw[aK n i (by omega)];unfold JB;cases ok i with
  |false=>rfl
  |true=>exact EV ok e bM aK c (i+1) n (by omega) (by omega)
theorem EW {α:Type} f (l:List α) d:∀c i,i+c=l.length→JB (fun x=>f (l.getD x d)) c i=i+((l.drop i).takeWhile f).length
 |0,i,h=>by
  rw[List.drop_eq_nil_of_le (by omega)];rfl
 |c+1,i,h=>by
  rw[List.drop_eq_getElem_cons (by grind)];unfold JB;have e:l.getD i d=l[i]:=by grind
  rw[e];cases hf:f l[i] with
  |false=>rw[List.takeWhile_cons_of_neg (by simp[hf])];rfl
  |true=>
   rw[List.takeWhile_cons_of_pos hf,aj,EW f l d c (i+1) (by omega),List.length_cons];omega
theorem nO {α:Type} f (l:List α):l.take (l.takeWhile f).length=l.takeWhile f∧l.drop (l.takeWhile f).length=l.dropWhile f:=by
 have e:=List.takeWhile_append_dropWhile (p:=f) (l:=l);grind
theorem A7 {α:Type} f (l:List α):(l.takeWhile f).length≤l.length:=(List.takeWhile_sublist f).length_le
theorem Vf {α b} f l (p:α)(hl:l.length≤1000)(hb:b≤1000):ins b l (((l.takeWhile f).length:Nat):Int) [p]=some (l.takeWhile f++(p::l.dropWhile f)):=by
 unfold ins;have h:=A7 f l;have hm:(l.length+1)*b≤1001*1000:=Nat.mul_le_mul (by omega) hb;rw[aa (by simp),aa (by grind),qJ (by grind) (by omega),aq,(nO f l).1,(nO f l).2];rfl
def oN (l:List zH)(p:zH):List zH:=l.takeWhile (fun q=>jD q p)++(p::l.dropWhile (fun q=>jD q p))
def JC (l:List zH)(p:zH):List zH:=l.takeWhile (fun q=>j3 q p)++(p::l.dropWhile (fun q=>j3 q p))
theorem yQr {k l}(hl:qO l):xj k l=some l:=by
 unfold qO at hl;unfold xj;rw[qJ (by omega) (by omega)];rfl
theorem Vg {k}(hk:3≤k) l (hl:qO l)(bN:l.length<k)(p:zH):JD k k l 0 p=some (l,(((l.takeWhile (fun q=>jD q p)).length:Nat):Int),p):=by
 unfold qO at hl;have := EV (L := fun n i => JD k n l i p) (N := l.length) (fun x => jD (l.getD x pd) p) (fun i => (l, (i : Int), p)) (fun n=>by
  show EX k _ l l.length p=_;unfold EX;simp) (fun n i hi=>by
  show EX k _ l i p=_;unfold EX;obtain⟨x,h1,h2,_⟩:=Ve hk (l.getD i pd) p;simp only[qB,qP,aq,aa hi,h1,ae,h2,qE hi (by grind)];rfl) l.length 0 k (by omega) bN
 have e:((0:Nat):Int)=0:=rfl;rw[e] at this;rw[this,EW (fun q=>jD q p) l pd l.length 0 (by omega),List.drop_zero,Nat.zero_add]
theorem Vh {k l}(hk:3≤k)(bN:l.length<k)(hl:qO l)(p:zH):
  xk k l p=some (bif (vW l p.1).isSome then(l,6) else bif decide (40≤l.length) then(l,3) else(oN l p,0)):=by
 have dM:=hl;unfold qO at hl;unfold xk;rw[A4 bN (by omega)];unfold j0;cases hp:vW l p.1 with
 |some x=>
  rfl
 |none=>
  by_cases h:40≤l.length
  ·grind
  ·rw[ab h,ab (by grind)];simp[Vg hk l dM bN,yQr dM,N6];rw[Vf _ l p hl (by decide)];rfl
theorem Vi {l x}(h:qO l):qO (yF l x):=by
 unfold qO at*
 have:=(ui l x).length_le;omega
def JE (l:List zH)(id:Int):List zH:=match vW l id with|some x=>yF l x|none=>l
theorem yRh {l id}(hd:qK l):vW (JE l id) id=none:=by
 cases h:vW (JE l id) id with
 |none=>rfl
 |some y=>
  exfalso;obtain⟨h1,h2⟩:=kI h;unfold JE at h h1 h2;cases hp:vW l id with
  |none=>
   rw[hp] at h;rw[hp] at h;cases h
  |some x=>
   rw[hp] at h1 h2;obtain⟨h3,h4⟩:=kI hp;have hm:=gh (d:=pd) h1;have e:=N0 l x pd h3;rw[e] at hd;have JF:=List.pairwise_append.1 hd;have Vj:=List.pairwise_cons.1 JF.2.1;rcases List.mem_append.1 hm with hm|hm
   ·exact JF.2.2 _ hm _ (List.mem_cons_self ..) (h2.trans h4.symm)
   ·exact Vj.1 _ hm (h4.trans h2.symm)
theorem vR7 {k l}(hk:3≤k)(bN:l.length<k)(hl:qO l)(hd:qK l)(h40:l.length≤40){id x}(hx:vW l id=some x) c:
  EY k l id c=some (oN (yF l x) ((l.getD x pd).1,(l.getD x pd).2.1,(l.getD x pd).2.2.1,(l.getD x pd).2.2.2.1,c,(l.getD x pd).2.2.2.2.2.1,(l.getD x pd).2.2.2.2.2.2),0):=by
 have dj:=kI hx;have hw:=yRh (id:=id) hd;unfold JE at hw;have hlen:=nN dj.1;unfold EY;rw[A6 bN hl];unfold il;rw[hx];simp;rw[Vh hk (by omega) (Vi hl)];grind
theorem vEc {k l}(hk:3≤k)(bN:l.length<k)(hl:qO l)(hd:qK l)(h40:l.length≤40){id x}(hx:vW l id=some x):
  EZ k l id=some (oN (yF l x) (l.getD x pd),0):=by
 have dj:=kI hx;have hw:=yRh (id:=id) hd;unfold JE at hw;have hlen:=nN dj.1;unfold EZ;rw[A6 bN hl];unfold il;rw[hx];simp;rw[Vh hk (by omega) (Vi hl)];grind
theorem Vk {k}(hk:3≤k) l (hl:qO l)(bN:l.length<k)(p:zH):JG k k 0 l p=some ((((l.takeWhile (fun q=>j3 q p)).length:Nat):Int),l,p):=by
 unfold qO at hl;have := EV (L := fun n i => JG k n i l p) (N := l.length) (fun x => j3 (l.getD x pd) p) (fun i => ((i : Int), l, p)) (fun n=>by
  show E0 k _ l.length l p=_;unfold E0;simp) (fun n i hi=>by
  show E0 k _ i l p=_;unfold E0;obtain⟨x,h1,_,h2⟩:=Ve hk (l.getD i pd) p;simp only[qB,qP,aq,aa hi,h1,ae,h2,qE hi (by grind)];rfl) l.length 0 k (by omega) bN
 have e:((0:Nat):Int)=0:=rfl;rw[e] at this;rw[this,EW (fun q=>j3 q p) l pd l.length 0 (by omega),List.drop_zero,Nat.zero_add]
theorem vPa {k l}(hk:3≤k)(bN:l.length<k)(hl:qO l){id x}(hx:vW l id=some x):
  E1 k l id=some (JC (yF l x) (l.getD x pd),0):=by
 have dM:=hl;unfold qO at hl;have dj:=kI hx;have hlen:=nN dj.1;have e1:decide ((x:Int)<0)=false:=by simp
 unfold E1 Vl;rw[A4 bN (by omega)];unfold j0;rw[hx];simp only[ae,e1,ak,yQr dM,qE dj.1 (by grind),yJu k dj.1 dM,qB,aa dj.1,aj];rw[Vk hk (yF l x) (Vi dM) (by omega)];simp[N6];rw[Vf _ (yF l x) _ (by omega) (by decide)];rfl
def idx (l:AC)(id:Int):Nat:=(l.takeWhile (fun x=>decide (x<id))).length
theorem vQq {x}(h0:0≤x)(h1:x<9223372036854775808):zA (shr .u64 (IntKind.wrap .u64 (zA x)) 1)=x/2:=by
 have e1:zA x=x:=zN (by omega) h1;have e2:IntKind.wrap .u64 x=x:=by
  unfold IntKind.wrap;simp[IntKind.bits];omega
 rw[e1,e2];have e3:shr .u64 x 1=x/2:=by
  have:(2:Int)^(min (1:Int).toNat (IntKind.bits .u64))=2:=by decide
  grind
 rw[e3];exact zN (by omega) (by omega)
theorem vPw k a b:N7 k a b=some (decide (a<b)):=by
 unfold N7 N8;simp
theorem Vm {k l id}(hl:l.length≤1000){c:Nat}(hc:c≤l.length)(h1:∀x,x<c→l.getD x 0<id)(h2:∀x,c≤x→x<l.length→id≤l.getD x 0) s6:
  ∀n i j,i≤c→c≤j→j≤l.length→j-i<n→JH k n l id s6 i j=some (l,id,s6,(c:Int))
 |n+1,i,j,hi,hj,rG,hn=>by
  show N9 k (JH k n) l id s6 i j=_;unfold N9;rw[qP];by_cases od:i<j
  ·have hh:zA (shr .u64 (IntKind.wrap .u64 (zA ((i:Int)+(j:Int)))) 1)=(((i+j)/2:Nat):Int):=by
    rw[vQq (by omega) (by omega)];omega
   have hm:(i+j)/2<l.length:=by omega
   rw[aa od,aj,hh,qB,aa hm,aj,vPw];simp only[ae,aq];by_cases bh:(i+j)/2<c
   ·rw[aa (h1 _ bh),aj,qE hm (by omega)];exact Vm hl hc h1 h2 s6 n _ j (by omega) hj rG (by omega)
   ·rw[ab (by grind),ak];exact Vm hl hc h1 h2 s6 n i _ hi (by omega) (by omega) (by omega)
  grind
theorem vDu {k l id}(bN:l.length<k)(hl:l.length≤1000){c:Nat}(hc:c≤l.length)(h1:∀x,x<c→l.getD x 0<id)(h2:∀x,c≤x→x<l.length→id≤l.getD x 0):
  E2 k l id=some ((c:Int),decide (c<l.length)&&decide (l.getD c 0=id)):=by
 unfold E2;have:=Vm (k:=k) hl hc h1 h2 (l.length:Int) k 0 l.length (by omega) hc (by simp) (by omega);rw[show((0:Nat):Int)=0 from rfl] at this;rw[this];simp only[ae,qB,aq];by_cases h:c<l.length
 ·simp only[aa h];by_cases h3:l.getD c 0=id
  ·simp_all
  ·rw[ab h3];unfold Oa;simp
 grind
def uj (l:AC):Prop:=List.Pairwise (fun a b=>a<b) l
theorem yPy {l id}:∀x,x<idx l id→l.getD x 0<id:=by
 intro x hx;unfold idx at hx;have h:=nO (fun x=>decide (x<id)) l;have e:l.getD x 0=(l.takeWhile (fun x=>decide (x<id))).getD x 0:=by
  grind
 have hm:=gh (d:=(0:Int)) hx;have:=List.all_eq_true.1 (List.all_takeWhile (p:=fun x=>decide (x<id)) (l:=l)) _ hm;simp_all
theorem yGc {l}(ha:uj l){id}:∀x,idx l id≤x→x<l.length→id≤l.getD x 0:=by
 intro x hx hl;have hi:idx l id<l.length:=by omega
 have h:=nO (fun x=>decide (x<id)) l;have h0:¬l.getD (idx l id) 0<id:=by
  have hd:l.drop (idx l id)=l[idx l id]::l.drop (idx l id+1):=by simp
  have h2:=h.2;unfold idx at hd;rw[h2] at hd;have bm:l.dropWhile (fun x=>decide (x<id))≠[]:=by rw[hd];simp
  have:=List.head_dropWhile_not (fun x=>decide (x<id)) bm;have e:(l.dropWhile (fun x=>decide (x<id))).head bm=l[idx l id]:=by
   unfold idx;simp_all
  simp_all
 by_cases e:x=idx l id
 ·rw[e];omega
 ·have:=List.pairwise_iff_getElem.1 ha (idx l id) x hi hl (by omega);grind
theorem vKg {l}(ha:uj l) id:(decide (idx l id<l.length)&&decide (l.getD (idx l id) 0=id))=decide (id∈l):=by
 by_cases hm:id∈l
 ·obtain⟨x,hx,e⟩:=List.getElem_of_mem hm;have e':l.getD x 0=id:=by simp_all
  have h1:¬x<idx l id:=fun h=>by have:=yPy x h;omega
  have h3:idx l id<l.length:=by omega
  have h4:¬idx l id<x:=fun h=>by
   have g1:=yGc ha (id:=id) (idx l id) (by simp) h3;have g2:=List.pairwise_iff_getElem.1 ha (idx l id) x h3 hx h;grind
  grind
 grind
def pN (l:AC)(id:Int):AC:=l.takeWhile (fun x=>decide (x<id))++(id::l.dropWhile (fun x=>decide (x<id)))
theorem yXo {k l}(bN:l.length<k)(hl:l.length≤1000)(ha:uj l) id:E2 k l id=some ((idx l id:Int),decide (id∈l)):=by
 rw[vDu bN hl (A7 _ l) yPy (yGc ha)];show some ((idx l id:Int),decide (idx l id<l.length)&&decide (l.getD (idx l id) 0=id))=_;rw[vKg ha]
theorem vG7 {k l}(bN:l.length<k)(hl:l.length≤1000)(ha:uj l) id:Ob k l id=some (decide (id∈l)):=by
 unfold Ob;rw[yXo bN hl ha];rfl
theorem Vn {k l}(bN:l.length<k)(hl:l.length≤1000)(ha:uj l) id:
  E3 k l id=some (bif decide (id∈l) then(l,6) else bif decide (200≤l.length) then(l,3) else(pN l id,0)):=by
 unfold E3;rw[yXo bN hl ha];by_cases hm:id∈l
 ·simp_all
 ·rw[ab hm];by_cases h:200≤l.length
  ·grind
  ·rw[ab h,ab (by grind)];have e2:pI k l=some l:=by
    unfold pI;rw[qJ (by omega) (by omega)];rfl
   simp[e2,yRq];unfold idx;rw[Vf _ l id hl (by decide)];rfl
def iI (l:AC):Int:=zO (fun x=>x) l
def xl (x:Int):Bool:=decide (-9223372036854775808≤x)&&decide (x<9223372036854775808)
theorem yEn x:shr .i64 x 63=x/9223372036854775808:=by
 show x.fdiv (2^(min 63 64))=_;grind
theorem pO x:IntKind.wrap .u64 x=x%18446744073709551616:=by
 rfl
theorem Vo {x}(h:0≤x∧x<18446744073709551616):zA x=if x<9223372036854775808 then x else x-18446744073709551616:=by
 unfold zA IntKind.wrap;simp[IntKind.bits,IntKind.signed];grind
theorem vMw (l:AC) i (hi:i<l.length):iI (l.take (i+1))=iI (l.take i)+l.getD i 0:=by
 have:l.take (i+1)=l.take i++[l.getD i 0]:=by
  simp_all
 unfold iI;rw[this,lU];simp[zO]
theorem yM2 {k l}(hk:l.length<k)(hl:l.length≤1000000)(hw:∀i,i<l.length→-9223372036854775808≤l.getD i 0∧l.getD i 0<9223372036854775808):
  E4 k l=some (bif xl (iI l) then(iI l,true) else(0,false)):=by
 obtain ⟨s', g1, g2, g3, g4⟩ := vJ (L := fun n i (s : Int × Int) => E5 k n s.1 s.2 l (l.length : Int) i) (N := l.length) (fun s => (s.1, s.2)) (fun i s => (0 ≤ s.2 ∧ s.2 < 18446744073709551616) ∧ s.1 * 18446744073709551616 + s.2 = iI (l.take i) ∧ (-(i : Int) ≤ s.1 ∧ s.1 ≤ i)) (fun n s _=>by
  show E6 k _ s.1 s.2 l l.length l.length=_;unfold E6;simp only [qP, ab (Nat.lt_irrefl _), ak]) (fun n i s hi hs=>by
  obtain⟨h,lo⟩:=s;obtain⟨⟨h1,h2⟩,h3,h4⟩:=hs;simp only at h1 h2 h3 h4;show∃s',E6 k _ h lo l l.length i=_∧_;unfold E6 Dq;have hb:=hw i hi;have xm:=vMw l i hi;obtain⟨v,hv⟩:∃v,l.getD i 0=v:=⟨_,rfl⟩;rw[hv] at hb xm;simp only[qP,qB,aq,aa hi,aj,hv,pO,yEn,decide_true,ae,qE hi (show l.length<9223372036854775808 by omega)];obtain⟨u,hu⟩:∃u,v%18446744073709551616=u:=⟨_,rfl⟩;rw[hu];obtain⟨q,hq⟩:∃q,v/9223372036854775808=q:=⟨_,rfl⟩;rw[hq];have rA:u=v-q*18446744073709551616:=by omega
  have oO:q=0∨q= -1:=by omega
  obtain⟨a,ha⟩:∃a:Nat,lo.toNat+u.toNat+0=a:=⟨_,rfl⟩;rw[ha];have rq:(a:Int)=lo+u:=by omega
  obtain⟨c,hc⟩:∃c:Nat,a/18446744073709551616=c:=⟨_,rfl⟩;obtain⟨m,hm⟩:∃c:Nat,a%18446744073709551616=c:=⟨_,rfl⟩;rw[hc,hm];have hcm:a=c*18446744073709551616+m:=by omega
  have lO:m<18446744073709551616:=by omega
  have lB:c≤1:=by omega
  have e1:zA (Int.ofNat c)=(c:Int):=zN (by show(_:Int)≤((c:Nat):Int);omega) (by show((c:Nat):Int)<_;omega);have e2:zA (q+(c:Int))=q+c:=zN (by omega) (by omega);have e3:zA (h+(q+(c:Int)))=h+(q+c):=zN (by omega) (by omega);rw[e1,e2,e3];refine⟨(h+(q+c),(m:Int)),rfl,by grind,?_,?_⟩
  ·rw[xm];show(h+(q+c))*18446744073709551616+(m:Int)=_;omega
  ·show-((i+1:Nat):Int)≤h+(q+c)∧h+(q+c)≤((i+1:Nat):Int);omega) (s:=(0,0)) hk ⟨⟨by show(0:Int)≤0;omega,by show(0:Int)<_;omega⟩,rfl,by show-((0:Nat):Int)≤0;omega,by show(0:Int)≤((0:Nat):Int);omega⟩
 have A8:E5 k k 0 0 l (l.length:Int) 0=some (s'.1,s'.2):=g1;rw[List.take_length] at g3;unfold E4;rw[A8];simp only[ae,yEn];rw[Vo g2];by_cases c:xl (iI l)=true
 ·have c':-9223372036854775808≤iI l∧iI l<9223372036854775808:=by simpa[xl] using c
  rw[c];by_cases d:s'.2<9223372036854775808
  ·rw[if_pos d,aa (show s'.1=s'.2/9223372036854775808 by omega)];simp only[aA,ak,aj];rw[show s'.2=iI l by omega]
  ·rw[if_neg d,aa (show s'.1=(s'.2-18446744073709551616)/9223372036854775808 by omega)];simp only[aA,ak,aj];rw[show s'.2-18446744073709551616=iI l by omega]
 ·have c':¬(-9223372036854775808≤iI l∧iI l<9223372036854775808):=by simpa[xl] using c
  rw[Bool.not_eq_true] at c;rw[c];by_cases d:s'.2<9223372036854775808
  ·rw[if_pos d,ab (show¬s'.1=s'.2/9223372036854775808 by omega)];rfl
  ·rw[if_neg d,ab (by grind)];rfl
theorem Vp {x}(h:0≤x):yJ .u64 x 4294967295=x%4294967296:=by
 obtain⟨n,rfl⟩:=Int.eq_ofNat_of_zero_le h;unfold yJ sX;rw[pO];have e1:(BitVec.ofInt IntKind.u64.bits (n:Int)&&&BitVec.ofInt IntKind.u64.bits 4294967295).toNat=n%4294967296:=by
  rw[BitVec.toNat_and,BitVec.toNat_ofInt,BitVec.toNat_ofInt];have e2:((4294967295:Int)%((2^IntKind.u64.bits:Nat):Int)).toNat=2^32-1:=by decide
  rw[e2,Nat.and_two_pow_sub_one_eq_mod];have e3:((n:Int)%((2^IntKind.u64.bits:Nat):Int)).toNat=n%18446744073709551616:=by
   rfl
  omega
 grind
theorem vD1 x:shr .u64 x 32=x/4294967296:=by
 show x.fdiv (2^(min 32 64))=_;grind
theorem Vq {a1 a0 b1 b0:Int}:(a1*4294967296+a0)*(b1*4294967296+b0)=a1*b1*18446744073709551616+(a1*b0+a0*b1)*4294967296+a0*b0:=by
 grind
theorem wA {a b A B:Int}(h0:0≤a)(h1:a≤A)(g0:0≤b)(g1:b≤B):0≤a*b∧a*b≤A*B:=
 ⟨Int.mul_nonneg h0 g0,Int.mul_le_mul h1 g1 g0 (by omega)⟩
theorem yLc (k:Nat){x y:Int}(hx:0≤x∧x<18446744073709551616)(hy:0≤y∧y<18446744073709551616):JI k x y=some (x*y/18446744073709551616,x*y%18446744073709551616):=by
 unfold JI;simp only[vD1,Vp hx.1,Vp hy.1,pO];obtain⟨a1,h1⟩:∃a,x/4294967296=a:=⟨_,rfl⟩;obtain⟨a0,h0⟩:∃a,x%4294967296=a:=⟨_,rfl⟩;obtain⟨b1,g1⟩:∃a,y/4294967296=a:=⟨_,rfl⟩;obtain⟨b0,g0⟩:∃a,y%4294967296=a:=⟨_,rfl⟩;have hxe:x=a1*4294967296+a0:=by omega
 have hye:y=b1*4294967296+b0:=by omega
 rw[h1,h0,g1,g0];have Oc:0≤a1∧a1≤4294967295:=by omega
 have nn:0≤a0∧a0≤4294967295:=by omega
 have fg:0≤b1∧b1≤4294967295:=by omega
 have E7:0≤b0∧b0≤4294967295:=by omega
 have p11:=wA Oc.1 Oc.2 fg.1 fg.2;have tU:=wA Oc.1 Oc.2 E7.1 E7.2;have p01:=wA nn.1 nn.2 fg.1 fg.2;have p00:=wA nn.1 nn.2 E7.1 E7.2;have NG:x*y=a1*b1*18446744073709551616+(a1*b0+a0*b1)*4294967296+a0*b0:=by rw[hxe,hye,Vq]
 rw[NG];generalize a1*b1=u at*
 generalize a1*b0=v at*
 generalize a0*b1=s at*
 generalize a0*b0=t at*
 have c1:(t%18446744073709551616)=t:=by omega
 have c2:(v%18446744073709551616+t/4294967296)%18446744073709551616=v+t/4294967296:=by omega
 rw[c1,c2];have JJ:yJ .u64 (v+t/4294967296) 4294967295=(v+t/4294967296)%4294967296:=Vp (by omega);rw[JJ];refine congrArg some (Prod.ext ?_ ?_)
 ·show _%_=_/_;omega
 ·rfl
theorem vYy k {x}(hx:0≤x∧x<18446744073709551616):Od k 0 x 10000=some (x/10000,x%10000):=by
 unfold Od;have e1:decide ((10000:Int)=0)=false:=rfl;have e2:decide ((10000:Int)≤0)=false:=rfl;simp[pO];grind
def uk (price many cut:Int):Int:=price*many*(10000-cut)/10000
theorem yV3 {p m c}(hp:0≤p∧p≤1048576)(hm:0≤m∧m≤1099511627776)(hc:0≤c∧c≤10000):0≤uk p m c∧uk p m c≤1152921504606846976:=by
 have h1:=wA hp.1 hp.2 hm.1 hm.2;have h2:=wA h1.1 h1.2 (by grind) (show 10000-c≤10000 by omega);unfold uk;omega
theorem vD3 k {p m c}(hp:0≤p∧p≤1048576)(hm:0≤m∧m≤1099511627776)(hc:0≤c∧c≤10000):Oe k p m c=some (uk p m c,true):=by
 unfold Oe Vr;have w1:zA (10000-c)=10000-c:=zN (by omega) (by omega);have e1:decide (p<0)=false:=ab (by omega);have e2:decide (m<0)=false:=ab (by omega);have e3:decide (c≥0)=true:=aa (by omega);have e4:decide (c≤10000)=true:=aa (by omega);have u1:p%18446744073709551616=p:=by omega
 have u2:m%18446744073709551616=m:=by omega
 have u3:(10000-c)%18446744073709551616=10000-c:=by omega
 have h1:=wA hp.1 hp.2 hm.1 hm.2;have hP:p*m/18446744073709551616=0:=by omega
 have hP2:p*m%18446744073709551616=p*m:=by omega
 have t0:Int.tmod 0 10000=0:=by simp
 have t1:Int.tdiv 0 10000=0:=by simp
 rw[e1,e2,e3,e4,ak,ak,aj,ae,aA,ak,pO p,pO m,u1,u2,yLc k (by grind) (by grind),ae,hP,hP2];dsimp only;rw[t0,t1,vYy k (by grind),ae];dsimp only;rw[w1,pO (10000-c),u3];unfold uk;obtain⟨l,hl⟩:∃l,10000-c=l:=⟨_,rfl⟩;rw[hl];obtain⟨P,hPe⟩:∃P,p*m=P:=⟨_,rfl⟩;rw[hPe] at h1⊢;have dM:0≤l∧l≤10000:=by omega
 rw[yLc k (by grind) (by grind)];have hq:=wA (show 0≤P/10000 by omega) (show P/10000≤115292150460684 by omega) dM.1 dM.2;have hr:=wA (show 0≤P%10000 by omega) (show P%10000≤9999 by omega) dM.1 dM.2;have A9:P*l=P/10000*l*10000+P%10000*l:=by
  grind
 rw[A9];generalize P/10000*l=a at*
 generalize P%10000*l=b at*
 have v1:a/18446744073709551616=0:=by omega
 have v2:a%18446744073709551616=a:=by omega
 have v3:b%18446744073709551616=b:=by omega
 have v4:Int.tdiv b 10000=b/10000:=Int.tdiv_eq_ediv_of_nonneg hr.1;have v5:b/10000%18446744073709551616=b/10000:=by omega
 have ha:Dq k a (b/10000) 0=some (a+b/10000,0):=by
  have n1:(Int.ofNat ((a.toNat+(b/10000).toNat+0)%18446744073709551616))=a+b/10000:=by rw[Int.ofNat_eq_natCast];omega
  have n2:(Int.ofNat ((a.toNat+(b/10000).toNat+0)/18446744073709551616))=0:=by rw[Int.ofNat_eq_natCast];omega
  unfold Dq;rw[aa rfl,aj,n1,n2]
 rw[ae];dsimp only;rw[v1,v2,pO b,v3,v4,pO (b/10000),v5,ha,ae];dsimp only;have z1:IntKind.wrap .u64 0=0:=by rw[pO];omega
 have z2:IntKind.wrap .u64 (0+0)=0:=by rw[pO];omega
 have z5:zA (a+b/10000)=a+b/10000:=zN (by omega) (by omega);grind
abbrev oP:=Int×Int
abbrev um:oP:=(0,0)
def nP (sa:List oP)(pr h:AC)(i:Nat):Int:=uk (pr.getD i 0) (h.getD i 0) (sa.getD i um).2
def lW (sa:List oP)(pr h:AC):Int:=qG (nP sa pr h) sa.length
structure kJ (sa:List oP) (pr h:AC):Prop where
 n3:sa.length≤3
 pl:pr.length=sa.length
 hl:h.length=sa.length
 cut:∀i,i<sa.length→0≤(sa.getD i um).2∧(sa.getD i um).2≤10000
 price:∀i,i<sa.length→0≤pr.getD i 0∧pr.getD i 0≤1048576
 hold:∀i,i<sa.length→0≤h.getD i 0∧h.getD i 0≤1099511627776
theorem JK {sa pr h}(L:kJ sa pr h){i}(hi:i<sa.length):0≤nP sa pr h i∧nP sa pr h i≤1152921504606846976:=yV3 (L.price i hi) (L.hold i hi) (L.cut i hi)
theorem Vs g:∀n,iI ((List.range n).map g)=qG g n
 |0=>rfl
 |n+1=>by
  rw[List.range_succ,List.map_append];unfold iI;rw[lU];have:=Vs g n;unfold iI at this;rw[this];show qG g n+(g n+0)=qG g n+g n;omega
theorem Of {g A}:∀{n},(∀j,j<n→0≤g j∧g j≤A)→0≤qG g n∧qG g n≤n*A
 |0,_=>by simp[qG]
 |n+1,h=>by
  have h1:=Of (n:=n) (fun j hj=>h j (by omega));have h2:=h n (by omega);have h3:((n+1:Nat):Int)*A=n*A+A:=by grind
  show 0≤qG g n+g n∧qG g n+g n≤_;omega
theorem vHo {k:Nat}{sa:List oP}{pr h:AC}(L:kJ sa pr h)(hk:10≤k):E8 k k pr h sa sa.length 0 []=some (.inl ((List.range sa.length).map (nP sa pr h))):=by
 have hn:=L.n3;obtain ⟨s', h1, h2⟩ := vJ (L := fun n i (s : AC) => E8 k n pr h sa sa.length i s) (N := sa.length) (fun s => .inl s) (fun i s => s = (List.range i).map (nP sa pr h)) (fun n s _=>by
  show E9 k _ pr h sa sa.length sa.length s=_;unfold E9;simp only [qP, ab (Nat.lt_irrefl _), ak]) (fun n i s hi hs=>by
  refine⟨s++[nP sa pr h i],?_,?_⟩
  ·show E9 k _ pr h sa sa.length i s=_;unfold E9;have dW:s.length≤3:=by rw[hs,List.length_map,List.length_range];omega
   have hw:=vD3 k (L.price i hi) (L.hold i hi) (L.cut i hi);simp only[qP,qB,aq,aa hi,aa (show i<pr.length by rw[L.pl];exact hi),aa (show i<h.length by rw[L.hl];exact hi),aj,qE hi (show sa.length<9223372036854775808 by omega)];rw[hw];simp only[ae,aA,ak,qJ (show(s.length+1)*8≤140737488355328 by omega) (show s.length+1≤140737488355328 by omega),aj];rfl
  ·rw[hs,List.range_succ,List.map_append];rfl) (s:=[]) (show sa.length<k by omega) rfl
 have ga:E8 k k pr h sa sa.length 0 []=_:=h1;rw[ga,h2]
theorem Vt {k sa pr h}(L:kJ sa pr h)(hk:10≤k):so k sa pr h=some (lW sa pr h,true):=by
 have hn:=L.n3;have hb:=Of (g:=nP sa pr h) (n:=sa.length) (fun j hj=>JK L hj);unfold so;have e1:decide ((pr.length:Int)=(sa.length:Int))=true:=aa (by rw[L.pl]);have e2:decide ((h.length:Int)=(sa.length:Int))=true:=aa (by rw[L.hl]);simp[e1,e2];rw[vHo L hk];simp;rw [yM2 (by grind) (by grind) (fun i hi=>by
  rw[List.length_map,List.length_range] at hi;have:=JK L hi;grind)]
 rw[Vs];have e3:xl (qG (nP sa pr h) sa.length)=true:=by
  unfold xl;grind
 rw[e3];rfl
theorem Fa {sa pr h}(L:kJ sa pr h):0≤lW sa pr h:=(Of (g:=nP sa pr h) (n:=sa.length) (fun j hj=>JK L hj)).1
theorem yB5 {k l}(hl:l.length≤1000){i}(h0:0≤i)(h1:i<l.length) v:pP k l i v=some (l.set i.toNat v):=by
 unfold pP;have e2:pI k l=some l:=by
  unfold pI;rw[qJ (by omega) (by omega)];rfl
 simp[e2,aa (show i≥0 by omega),aa h1,aj,fl h0 h1]
theorem Og {a b m p l r}(hb:wK a b m p)(h:sj a b m p l r):
  qG (fun i=>(r.1.getD i ad).1) a.length=qG (fun i=>(a.getD i ad).1) a.length∧wK r.1 r.2.1 r.2.2.1 r.2.2.2.1∧(r.2.2.2.2=0∨(r.1=a∧r.2.1=b∧r.2.2.1=m∧r.2.2.2.1=p)):=by
 by_cases c:vZ a.length l
 ·obtain⟨a',p',x,e⟩:=h.1 c;cases hi:mP a' b m p' with
  |false=>
   simp_all
  |true=>
   rw[hi] at e;subst e;refine⟨?_,Nt.1 hi,.inl rfl⟩;have e1:qG (fun i=>(a'.getD i ad).1) a.length=qG (fun i=>(a.getD i ad).1+zO (gB i) l) a.length:=se fun j hj=>by rw[x.acct j hj]
   show qG (fun i=>(a'.getD i ad).1) a.length=_;rw[e1,Dt,M9];have e2:zO (fun p=>qG (fun j=>gB j p) a.length) l=zO (fun _=>(0:Int)) l:=M8 fun p hp=>by
    obtain⟨f0,f1,t0,t1,ne,a1,a2,c1,c3⟩:=c.1 p hp;obtain⟨f,hf⟩:∃f:Nat,p.2.1=f:=⟨p.2.1.toNat,by omega⟩;obtain⟨t,ht⟩:∃t:Nat,p.2.2.1=t:=⟨p.2.2.1.toNat,by omega⟩;have g1:∀j,gB j p=(if j=t then p.2.2.2.1 else 0)+(if j=f then-p.2.2.2.1 else 0):=by
     unfold gB;omega
    rw[se fun j _=>g1 j,Dt,AI,AI,if_pos (by omega),if_pos (by omega)];omega
   have e3:∀l:List zH,zO (fun _:zH=>(0:Int)) l=0:=by
    intro l
    induction l with
    |nil=>rfl
    |cons p l ih=>show 0+zO _ l=0;omega
   simp_all
 ·have e:=h.2 c;simp_all
abbrev BT:=List qX×EQ×AC×EQ
def qN (B:BT):Prop:=wK B.1 B.2.1 B.2.2.1 B.2.2.2
theorem Fc {k}(hk:100<k){B}(h:qN B){l:List zH}(hl:l.length≤80):
  ∃r,pL k B.1 B.2.1 B.2.2.1 B.2.2.2 l=some r∧AT k B.1 B.2.1 B.2.2.1 B.2.2.2 l=some r∧sj B.1 B.2.1 B.2.2.1 B.2.2.2 l r:=by
 obtain⟨r,h1,h2⟩:=NH hk h hl;obtain⟨r',h3,h4⟩:=vRd hk h hl;have:=h2.same h4;simp_all
def xn (B:BT)(l:List zH):Bool:=xh B.1 B.2.1 B.2.2.1 B.2.2.2 l
def im (k:Nat)(B:BT)(l:List zH):Option BT:=match pL k B.1 B.2.1 B.2.2.1 B.2.2.2 l with
 |some r=>bif decide (r.2.2.2.2=0)&&xn B l then some (r.1,r.2.1,r.2.2.1,r.2.2.2.1) else none
 |none=>none
theorem sr {k}(hk:100<k){B C}(h:qN B){l}(hl:l.length≤80)(hg:im k B l=some C):qN C∧C.1.length=B.1.length:=by
 obtain⟨r,h1,h2,h3⟩:=Fc hk h hl;unfold im at hg;rw[h1] at hg;simp only at hg;cases hc:decide (r.2.2.2.2=0)&&xn B l with
 |false=>
  simp_all
 |true=>
  rw[hc] at hg;simp  at hg;subst hg;refine⟨(Og h h3).2.1,?_⟩;by_cases c:vZ B.1.length l
  ·obtain⟨a',p',x,e⟩:=h3.1 c;cases hi:mP a' B.2.1 B.2.2.1 p' with
   |false=>simp_all
   |true=>rw[hi] at e;subst e;exact x.al
  ·rw[h3.2 c]
def jP (k:Nat)(B:BT):List zH→Option (zH×BT)
 |[]=>none
 |p::l=>match im k B [p] with
  |some C=>some (p,C)
  |none=>jP k B l
theorem Ba {k B C p}:∀{l},jP k B l=some (p,C)→p∈l∧im k B [p]=some C
 |q::l,h=>by
  unfold jP at h;cases hg:im k B [q] with
  |some D=>
   simp_all
  |none=>
   rw[hg] at h;have:=Ba h;simp_all
theorem yAg k B {m:List zH}{i}(hi:i<m.length):jP k B (m.drop i)=match im k B [m.getD i pd] with
  |some C=>some (m.getD i pd,C)
  |none=>jP k B (m.drop (i+1)):=by
 rw[List.drop_eq_getElem_cons hi];have e:m.getD i pd=m[i]:=by simp_all
 rw[e];rfl
theorem Oh l t:(vS l t).length≤l.length:=Nat.le_trans (List.length_filter_le _ _) (by grind)
theorem vPp m i (hi:i<m.length):qR m (0+i) (i+1-i)=[m.getD i pd]:=by
 unfold qR;rw[Nat.zero_add,show i+1-i=1 by omega,List.drop_eq_getElem_cons hi,List.getD_eq_getElem?_getD,List.getElem?_eq_getElem hi];rfl
def eO (l:List zH)(id:Int):List zH:=(il l id).1
theorem uo {l p}(h:p∈l):(eO l p.1).length+1=l.length∧List.Sublist (eO l p.1) l:=by
 obtain⟨x,hx⟩:=N1 h;unfold eO il;rw[hx];have:=(kI hx).1;refine⟨?_,ui l x⟩;rw[nN this];omega
theorem Fe {l t p}(h:p∈vS l t):p∈l:=(List.mem_filter.1 (List.mem_filter.1 h).1).1
inductive gI (k:Nat) (t:Int):BT→List zH→List zH→BT→List zH→Prop
 |stop {B:BT} {l:List zH} (h:jP k B (vS l t)=none):gI k t B l [] B l
 |step {B C D:BT} {l m done:List zH} {p:zH} (h:jP k B (vS l t)=some (p,C)) (h':gI k t C (eO l p.1) done D m):gI k t B l (p::done) D m
theorem vA5 {k}(hk:100<k){B}(h:qN B){l:List zH}(hl:l.length≤80):A0 k B.1 B.2.1 B.2.2.1 B.2.2.2 l=some (xn B l):=vTa hk h hl
theorem yYq {k}(hk:100<k){B}(h:qN B)(m:List zH)(hm:m.length≤1000):∀c i n,i+c=m.length→c<n→
  JL k n m.length i B.1 B.2.1 B.2.2.1 B.2.2.2 0 0 0 0 0 0 0 m = some (match jP k B (m.drop i) with
   |some (p,C)=>.inr (true,p.1,p.2.1,p.2.2.1,p.2.2.2.1,p.2.2.2.2.1,p.2.2.2.2.2.1,p.2.2.2.2.2.2,C.1,C.2.1,C.2.2.1,C.2.2.2)
   |none=>.inl (B.1,B.2.1,B.2.2.1,B.2.2.2,0,0,0,0,0,0,0))
 |0,i,n,e,hn=>by
  obtain⟨n,rfl⟩:∃x,n=x+1:=⟨n-1,by omega⟩;have:i=m.length:=by omega
  subst this;show Ff k _ m.length m.length B.1 B.2.1 B.2.2.1 B.2.2.2 0 0 0 0 0 0 0 m=_;unfold Ff;simp;rfl
 |c+1,i,n,e,hn=>by
  obtain⟨n,rfl⟩:∃x,n=x+1:=⟨n-1,by omega⟩;have hi:i<m.length:=by omega
  have ih:=yYq hk h m hm c (i+1) n (by omega) (by omega);show Ff k _ m.length i B.1 B.2.1 B.2.2.1 B.2.2.2 0 0 0 0 0 0 0 m=_;unfold Ff;obtain⟨r,h1,h2,h3⟩:=Fc hk h (l:=[m.getD i pd]) (by simp);have hf:=vA5 hk h (l:=[m.getD i pd]) (by simp);simp[qB,qE hi (by grind)];rw[yAg k B hi];unfold im;grind
def yL8 (B:BT)(x:Option (zH×BT)):Int×Int×Int×Int×Int×Int×Int×(List (Int×Int×Int))×EQ×AC×EQ×Bool:=match x with
 |some (p,C)=>(p.1,p.2.1,p.2.2.1,p.2.2.2.1,p.2.2.2.2.1,p.2.2.2.2.2.1,p.2.2.2.2.2.2,C.1,C.2.1,C.2.2.1,C.2.2.2,true)
 |none=>(0,0,0,0,0,0,0,B.1,B.2.1,B.2.2.1,B.2.2.2,false)
theorem vXc {k}(hk:100<k){B}(h:qN B){l}(bN:l.length<k)(hl:qO l)(hd:qK l) t:Oi k B.1 B.2.1 B.2.2.1 B.2.2.2 l t=some (yL8 B (jP k B (vS l t))):=by
 unfold Oi;rw[yQe bN hl hd];have Fg:=Oh l t;unfold qO at hl;have:=yYq hk h (vS l t) (by omega) (vS l t).length 0 k (by omega) (by omega);have e:((0:Nat):Int)=0:=rfl;rw[e,List.drop_zero] at this;simp;rw[this];cases jP k B (vS l t) with
 |none=>rfl
 |some x=>rfl
theorem yGq {k}(hk:100<k) t:∀n B (l r:List zH),qN B→qK l→l.length≤100→l.length<n→r.length+l.length≤1000→
  ∃(C:BT) (m done:List zH),JM k n t l B.1 B.2.1 B.2.2.1 B.2.2.2 r=some (m,C.1,C.2.1,C.2.2.1,C.2.2.2,r++done)∧gI k t B l done C m∧qN C∧C.1.length=B.1.length∧List.Sublist m l
 |n+1,B,l,r,hb,hd,hl,hn,hr=>by
  have h1:=vXc hk hb (l:=l) (by omega) (by show l.length≤1000;omega) hd t;cases hx:jP k B (vS l t) with
  |none=>
   rw[hx] at h1;refine⟨B,l,[],?_,.stop hx,hb,rfl,by simp⟩;show Fh k _ t l B.1 B.2.1 B.2.2.1 B.2.2.2 r=_;unfold Fh;rw[h1];simp only[ae,yL8,bQ,aj,List.append_nil]
  |some x=>
   obtain⟨p,C⟩:=x;rw[hx] at h1;obtain⟨hp,hg⟩:=Ba hx;have CT:=Fe hp;obtain⟨tt,mE⟩:=uo CT;obtain⟨nF,cL⟩:=sr hk hb (by simp) hg;obtain⟨D,m,done,g1,g3,g4,g5,g6⟩:=yGq hk t n C (eO l p.1) (r++[p]) nF (List.Pairwise.sublist mE hd) (by omega) (by omega) (by grind);refine⟨D,m,p::done,?_,.step hx g3,g4,by grind,g6.trans mE⟩;show Fh k _ t l B.1 B.2.1 B.2.2.1 B.2.2.2 r=_;unfold Fh;rw[h1];simp[A6 (show l.length<k by omega) (show qO l by show l.length≤1000;omega),nL (show r.length≤1000 by omega)];rw[List.append_cons r p done,←g1];rfl
theorem vK1 {k}(hk:200≤k){B}(hb:qN B){l}(hd:qK l)(hl:l.length≤100) t:
  ∃(C:BT) (m done:List zH),Oj k B.1 B.2.1 B.2.2.1 B.2.2.2 l t=some (C.1,C.2.1,C.2.2.1,C.2.2.2,m,done)∧gI k t B l done C m∧qN C∧C.1.length=B.1.length∧List.Sublist m l:=by
 obtain⟨C,m,done,h1,h3⟩:=yGq (show 100<k by omega) t k B l [] hb hd hl (by omega) (by grind);refine⟨C,m,done,?_,h3⟩;unfold Oj;simp_all
def pQ (p q:zH):Bool:=decide (q.2.1=p.2.2.1)&&(decide (q.2.2.1=p.2.1)&& !decide (p.2.1≥q.2.1))
def oQ (k:Nat)(B:BT)(p:zH):List zH→Option (zH×BT)
 |[]=>none
 |q::l=>match(bif pQ p q then im k B [p,q] else none) with
  |some C=>some (q,C)
  |none=>oQ k B p l
def ss (k:Nat)(B:BT)(m:List zH):List zH→Option (zH×zH×BT)
 |[]=>none
 |p::l=>match oQ k B p m with
  |some (q,C)=>some (p,q,C)
  |none=>ss k B m l
theorem Vu {k B C p q}:∀{l},oQ k B p l=some (q,C)→q∈l∧pQ p q=true∧im k B [p,q]=some C
 |r::l,h=>by
  unfold oQ at h;cases hd:pQ p r with
  |false=>
   rw[hd] at h;have:=Vu (l:=l) h;simp_all
  |true=>
   rw[hd] at h;cases hg:im k B [p,r] with
   |some D=>
    simp_all
   |none=>
    rw[hg] at h;have:=Vu (l:=l) h;simp_all
theorem Ol {k B C p q m}:∀{l},ss k B m l=some (p,q,C)→p∈l∧q∈m∧pQ p q=true∧im k B [p,q]=some C
 |r::l,h=>by
  unfold ss at h;cases hq:oQ k B r m with
  |some x=>
   rw[hq] at h;cases h;exact⟨by simp,Vu hq⟩
  |none=>
   rw[hq] at h;have:=Ol (l:=l) h;simp_all
theorem yP5 {α:Type}{l:List α}{i} h d:l.getD i d=l[i]:=by
 simp_all
theorem yGh k B p {m:List zH}{i}(hi:i<m.length):oQ k B p (m.drop i)=match(bif pQ p (m.getD i pd) then im k B [p,m.getD i pd] else none) with
  |some C=>some (m.getD i pd,C)
  |none=>oQ k B p (m.drop (i+1)):=by
 rw[List.drop_eq_getElem_cons hi,yP5 hi];rfl
theorem yRy k B r {m:List zH}{i}(hi:i<m.length):ss k B r (m.drop i)=match oQ k B (m.getD i pd) r with
  |some (q,C)=>some (m.getD i pd,q,C)
  |none=>ss k B r (m.drop (i+1)):=by
 rw[List.drop_eq_getElem_cons hi,yP5 hi];rfl
def fz (k:Nat)(B:BT)(l:List zH)(t:Int):Option (zH×zH×BT):=ss k B (vS l t) (vS l t)
theorem vK0 {l x q}(hx:x<l.length)(h:q∈l)(bm:q≠l.getD x pd):q∈yF l x:=by
 unfold yF;have e:=N0 l x pd hx;grind
theorem qK.eq_of {l}(h:qK l){p q}(hp:p∈l)(hq:q∈l)(e:p.1=q.1):p=q:=by
 obtain⟨i,hi,ei⟩:=List.getElem_of_mem hp;obtain⟨j,hj,ej⟩:=List.getElem_of_mem hq;have hl:=List.pairwise_iff_getElem.1 h;grind
theorem Vv {l p q}(hp:p∈l)(hq:q∈l)(bm:q.1≠p.1):q∈eO l p.1:=by
 obtain⟨x,hx⟩:=N1 hp;unfold eO il;rw[hx];have:=kI hx;exact vK0 this.1 hq (by grind)
def Bb (l:List zH)(p q:zH):List zH:=eO (eO l p.1) q.1
theorem Fi {k B C l t p q}(h:fz k B l t=some (p,q,C)):p∈l∧q∈l∧pQ p q=true∧im k B [p,q]=some C:=by
 obtain⟨h1,h2,h3⟩:=Ol h;exact⟨Fe h1,Fe h2,h3⟩
theorem yYh {l}(hd:qK l){p q}(hp:p∈l)(hq:q∈l)(h:pQ p q=true):q.1≠p.1:=by
 intro e;have:=hd.eq_of hq hp e;subst this;unfold pQ at h;simp at h
theorem Fj {l}(hd:qK l){p q}(hp:p∈l)(hq:q∈l)(h:pQ p q=true):(Bb l p q).length+2=l.length∧List.Sublist (Bb l p q) l:=by
 obtain⟨h1,h2⟩:=uo hp;obtain⟨h3,h4⟩:=uo (Vv hp hq (yYh hd hp hq h));unfold Bb;exact⟨by omega,h4.trans h2⟩
inductive jQ (k:Nat) (t:Int):BT→List zH→List zH→BT→List zH→Prop
 |stop {B:BT} {l:List zH} (h:fz k B l t=none):jQ k t B l [] B l
 |step {B C D:BT} {l m done:List zH} {p q:zH} (h:fz k B l t=some (p,q,C)) (h':jQ k t C (Bb l p q) done D m):jQ k t B l (p::q::done) D m
theorem jQ.length {k t B C l done m}(h:jQ k t B l done C m)(hd:qK l):done.length+m.length=l.length∧done.length%2=0:=by
 induction h with
 |stop _=>simp
 |step h _ ih=>
  obtain⟨hp,hq,oR,_⟩:=Fi h;obtain⟨h1,h2⟩:=Fj hd hp hq oR;have:=ih (List.Pairwise.sublist h2 hd);grind
theorem jQ.sub {k t B C l done m}(h:jQ k t B l done C m)(hd:qK l):List.Sublist m l:=by
 induction h with
 |stop _=>simp
 |step h _ ih=>
  obtain⟨hp,hq,oR,_⟩:=Fi h;obtain⟨h1,h2⟩:=Fj hd hp hq oR;exact(ih (List.Pairwise.sublist h2 hd)).trans h2
theorem yZb {k}(hk:100<k){B}(h:qN B)(m:List zH)(hm:m.length≤1000) p dI cI:∀c i n,i+c=m.length→c<n→
  JN k n dI cI m.length i B.1 B.2.1 B.2.2.1 B.2.2.2 0 0 0 0 0 0 0 0 0 0 0 0 0 0 m p.1 p.2.1 p.2.2.1 p.2.2.2.1 p.2.2.2.2.1 p.2.2.2.2.2.1 p.2.2.2.2.2.2 = some (match oQ k B p (m.drop i) with
   |some (q,C)=>.inr (true,p.1,p.2.1,p.2.2.1,p.2.2.2.1,p.2.2.2.2.1,p.2.2.2.2.2.1,p.2.2.2.2.2.2,q.1,q.2.1,q.2.2.1,q.2.2.2.1,q.2.2.2.2.1,q.2.2.2.2.2.1,q.2.2.2.2.2.2,C.1,C.2.1,C.2.2.1,C.2.2.2)
   |none=>.inl (dI,cI,B.1,B.2.1,B.2.2.1,B.2.2.2,0,0,0,0,0,0,0,0,0,0,0,0,0,0,m))
 |0,i,n,e,hn=>by
  obtain⟨n,rfl⟩:∃x,n=x+1:=⟨n-1,by omega⟩;have:i=m.length:=by omega
  subst this;show Fk k _ dI cI m.length m.length B.1 B.2.1 B.2.2.1 B.2.2.2 0 0 0 0 0 0 0 0 0 0 0 0 0 0 m p.1 p.2.1 p.2.2.1 p.2.2.2.1 p.2.2.2.2.1 p.2.2.2.2.2.1 p.2.2.2.2.2.2=_;unfold Fk;simp;rfl
 |c+1,i,n,e,hn=>by
  obtain⟨n,rfl⟩:∃x,n=x+1:=⟨n-1,by omega⟩;have hi:i<m.length:=by omega
  have ih:=yZb hk h m hm p dI cI c (i+1) n (by omega) (by omega);show Fk k _ dI cI m.length i B.1 B.2.1 B.2.2.1 B.2.2.2 0 0 0 0 0 0 0 0 0 0 0 0 0 0 m p.1 p.2.1 p.2.2.1 p.2.2.2.1 p.2.2.2.2.1 p.2.2.2.2.2.1 p.2.2.2.2.2.2=_;unfold Fk;obtain⟨r,h1,h2,h3⟩:=Fc hk h (l:=[p,m.getD i pd]) (by simp);have hf:=vA5 hk h (l:=[p,m.getD i pd]) (by simp);have ga:pL k B.1 B.2.1 B.2.2.1 B.2.2.2 [(p.1,p.2.1,p.2.2.1,p.2.2.2.1,p.2.2.2.2.1,p.2.2.2.2.2.1,p.2.2.2.2.2.2),m.getD i (0,(0,(0,(0,(0,(0,0))))))]=some r:=h1;have ek:A0 k B.1 B.2.1 B.2.2.1 B.2.2.2 [(p.1,p.2.1,p.2.2.1,p.2.2.2.1,p.2.2.2.2.1,p.2.2.2.2.2.1,p.2.2.2.2.2.2),m.getD i (0,(0,(0,(0,(0,(0,0))))))]=some (xn B [p,m.getD i pd]):=hf;simp only[qB,qE hi (by grind),qP,aq,aa hi];rw[yGh k B p hi];unfold pQ;cases decide ((m.getD i pd).2.1=p.2.2.1) with
  |false=>exact ih
  |true=>
   cases decide ((m.getD i pd).2.2.1=p.2.1) with
   |false=>exact ih
   |true=>
    cases decide (p.2.1≥(m.getD i pd).2.1) with
    |true=>exact ih
    |false=>
     unfold im;grind
theorem yUd {k}(hk:100<k){B}(h:qN B)(m:List zH)(hm:m.length≤1000)(JO:m.length<k):∀c i n,i+c=m.length→c<n→
  JP k n m.length i B.1 B.2.1 B.2.2.1 B.2.2.2 0 0 0 0 0 0 0 0 0 0 0 0 0 0 m = some (match ss k B m (m.drop i) with
   |some (p,q,C)=>.inr (true,p.1,p.2.1,p.2.2.1,p.2.2.2.1,p.2.2.2.2.1,p.2.2.2.2.2.1,p.2.2.2.2.2.2,q.1,q.2.1,q.2.2.1,q.2.2.2.1,q.2.2.2.2.1,q.2.2.2.2.2.1,q.2.2.2.2.2.2,C.1,C.2.1,C.2.2.1,C.2.2.2)
   |none=>.inl (0,0,0,0,0,0,0,0,0,0,0,0,0,0))
 |0,i,n,e,hn=>by
  obtain⟨n,rfl⟩:∃x,n=x+1:=⟨n-1,by omega⟩;have:i=m.length:=by omega
  subst this;show Fl k _ m.length m.length B.1 B.2.1 B.2.2.1 B.2.2.2 0 0 0 0 0 0 0 0 0 0 0 0 0 0 m=_;unfold Fl;simp;rfl
 |c+1,i,n,e,hn=>by
  obtain⟨n,rfl⟩:∃x,n=x+1:=⟨n-1,by omega⟩;have hi:i<m.length:=by omega
  have ih:=yUd hk h m hm JO c (i+1) n (by omega) (by omega);show Fl k _ m.length i B.1 B.2.1 B.2.2.1 B.2.2.2 0 0 0 0 0 0 0 0 0 0 0 0 0 0 m=_;unfold Fl;have fh:=yZb hk h m hm (m.getD i pd) m.length i m.length 0 k (by omega) JO;have e0:((0:Nat):Int)=0:=rfl;rw[e0,List.drop_zero] at fh;simp only[qB,qP,aq,aa hi];rw[fh];rw[yRy k B m hi];cases oQ k B (m.getD i (0,(0,(0,(0,(0,(0,0))))))) m with
  |none=>
   simp[qE hi (by grind)];exact ih
  |some x=>rfl
def Vw (x:Option (zH×zH×BT)):Int×Int×Int×Int×Int×Int×Int×Int×Int×Int×Int×Int×Int×Int×(List (Int×Int×Int))×EQ×AC×EQ×Bool:=match x with
 |some (p,q,C)=>(p.1,p.2.1,p.2.2.1,p.2.2.2.1,p.2.2.2.2.1,p.2.2.2.2.2.1,p.2.2.2.2.2.2,q.1,q.2.1,q.2.2.1,q.2.2.2.1,q.2.2.2.2.1,q.2.2.2.2.2.1,q.2.2.2.2.2.2,C.1,C.2.1,C.2.2.1,C.2.2.2,true)
 |none=>(0,0,0,0,0,0,0,0,0,0,0,0,0,0,[],[],[],[],false)
theorem Vx {k}(hk:100<k){B}(h:qN B){l}(bN:l.length<k)(hl:qO l)(hd:qK l) t:Om k B.1 B.2.1 B.2.2.1 B.2.2.2 l t=some (Vw (fz k B l t)):=by
 unfold Om fz;rw[yQe bN hl hd];have Fg:=Oh l t;unfold qO at hl;have:=yUd hk h (vS l t) (by omega) (by omega) (vS l t).length 0 k (by omega) (by omega);have e:((0:Nat):Int)=0:=rfl;rw[e,List.drop_zero] at this;simp;rw[this];cases ss k B (vS l t) (vS l t) with
 |none=>rfl
 |some x=>rfl
theorem Vy {k}(hk:3≤k) t (l:List zH)(hl:l.length≤1000)(tT:l.length<k)(C:BT)(r:List zH)(hr:r.length≤900)(p q:zH):
  xo k k t l 2 0 C.1 C.2.1 C.2.2.1 C.2.2.2 r [p,q]=some (t,Bb l p q,C.1,C.2.1,C.2.2.1,C.2.2.2,r++[p,q]):=by
 obtain⟨n,rfl⟩:∃n,k=n+3:=⟨k-3,by omega⟩;have h1:=A6 tT (show qO l from hl) p.1;have tt:(eO l p.1).length≤l.length:=by
  unfold eO il;cases hp:vW l p.1 with
  |none=>simp
  |some x=>exact List.Sublist.length_le (ui l x)
 have h2:=A6 (k:=n+3) (l:=eO l p.1) (by omega) (show(eO l p.1).length≤1000 by omega) q.1;have e1:zP (r.length+1) 56=true:=nL (by omega);have e2:zP ((r++[p]).length+1) 56=true:=nL (by grind);show xp (n+3) (xo (n+3) (n+2)) t l 2 0 C.1 C.2.1 C.2.2.1 C.2.2.2 r [p,q]=_;unfold xp;have g0:[p,q].getD (Int.toNat 0) (0,(0,(0,(0,(0,(0,0))))))=p:=rfl;have b0:zB 0 [p,q].length=true:=rfl;have d0:decide ((0:Int)<2)=true:=rfl;have w0:zA (0+1)=1:=by decide
 rw[d0,b0,g0,h1];simp[e1];show xp (n+3) (xo (n+3) (n+1)) t (eO l p.1) 2 1 C.1 C.2.1 C.2.2.1 C.2.2.2 (r++[p]) [p,q]=_;unfold xp;have g1:[p,q].getD (Int.toNat 1) (0,(0,(0,(0,(0,(0,0))))))=q:=rfl;have b1:zB 1 [p,q].length=true:=rfl;have d1:decide ((1:Int)<2)=true:=rfl;have w1:zA (1+1)=2:=by decide
 rw[d1,b1,g1,h2];simp only[e2];show xp (n+3) (xo (n+3) n) t (Bb l p q) 2 2 C.1 C.2.1 C.2.2.1 C.2.2.2 (r++[p]++[q]) [p,q]=_;unfold xp;simp
theorem yRm {k}(hk:100<k) t:∀n B (l r:List zH),qN B→qK l→l.length≤100→l.length<n→r.length+l.length≤900→
  ∃(C:BT) (m done:List zH),JQ k n t l B.1 B.2.1 B.2.2.1 B.2.2.2 r=some (m,C.1,C.2.1,C.2.2.1,C.2.2.2,r++done)∧jQ k t B l done C m∧qN C∧C.1.length=B.1.length∧List.Sublist m l
 |n+1,B,l,r,hb,hd,hl,hn,hr=>by
  have h1:=Vx hk hb (l:=l) (by omega) (by show l.length≤1000;omega) hd t;cases hx:fz k B l t with
  |none=>
   rw[hx] at h1;refine⟨B,l,[],?_,.stop hx,hb,rfl,by simp⟩;show Fm k _ t l B.1 B.2.1 B.2.2.1 B.2.2.2 r=_;unfold Fm;rw[h1];simp only[ae,Vw,bQ,aj,List.append_nil]
  |some x=>
   obtain⟨p,q,C⟩:=x;obtain⟨hp,hq,oR,hg⟩:=Fi hx;obtain⟨tt,mE⟩:=Fj hd hp hq oR;obtain⟨nF,cL⟩:=sr hk hb (by simp) hg;obtain⟨D,m,done,g1,g3,g4,g5,g6⟩:=yRm hk t n C (Bb l p q) (r++[p,q]) nF (List.Pairwise.sublist mE hd) (by omega) (by omega) (by grind);refine⟨D,m,p::q::done,?_,.step hx g3,g4,by grind,g6.trans mE⟩;show Fm k _ t l B.1 B.2.1 B.2.2.1 B.2.2.2 r=_;unfold Fm;rw[h1];have hL:=Vy (k:=k) (by omega) t l (by omega) (by omega) C r (by omega) p q;simp only[Vw,ak];simp_all
theorem vR5 {k}(hk:200≤k){B}(hb:qN B){l}(hd:qK l)(hl:l.length≤100) t:
  ∃(C:BT) (m done:List zH),On k B.1 B.2.1 B.2.2.1 B.2.2.2 l t=some (C.1,C.2.1,C.2.2.1,C.2.2.2,m,done)∧jQ k t B l done C m∧qN C∧C.1.length=B.1.length∧List.Sublist m l:=by
 obtain⟨C,m,done,h1,h3⟩:=yRm (show 100<k by omega) t k B l [] hb hd hl (by omega) (by grind);refine⟨C,m,done,?_,h3⟩;unfold On;simp_all
def jT (l:List zH)(f:Int):Nat:=(l.filter (wU f)).length
def su (l:List zH)(many:AC)(i:Nat):Bool:=
 (decide ((l.getD i pd).2.1≥0)&&decide ((l.getD i pd).2.1<(many.length:Int)))&&decide (((jT (l.take i) (l.getD i pd).2.1:Nat):Int)<many.getD (l.getD i pd).2.1.toNat 0)
def mR (l:List zH)(many:AC):Nat→List zH
 |0=>[]
 |i+1=>mR l many i++(bif su l many i then[l.getD i pd] else[])
def vK (l:List zH)(many:AC):List zH:=mR l many l.length
theorem ySg l many:∀N,N≤l.length→List.Sublist (mR l many N) (l.take N)
 |0,_=>by simp[mR]
 |N+1,h=>by
  rw[←fH l N pd h];apply List.Sublist.append (ySg l many N (by omega));grind
theorem xq l many:List.Sublist (vK l many) l:=by
 have:=ySg l many l.length (by simp)
 rwa [List.take_length] at this
def uq (v w:AC):Prop:=v.length=w.length∧∀i,i<w.length→v.getD i 0≤w.getD i 0
def jX (B:BT)(l:List zH):AC:=ug B.1 B.2.1 B.2.2.1 B.2.2.2 l
def eP (s:AC)(m:AC):AC:=s.foldl (fun m i=>m.set i.toNat (m.getD i.toNat 0-1)) m
theorem ur:∀s m,(eP s m).length=m.length
 |[],_=>rfl
 |i::s,m=>by
  show(eP s (m.set i.toNat (m.getD i.toNat 0-1))).length=_;rw[ur s,List.length_set]
theorem yN8:∀(s:List Nat) m,s.Nodup→(∀i∈s,i<m.length)→∀j,(eP (s.map fun(x:Nat)=>(x:Int)) m).getD j 0=m.getD j 0-(if j∈s then 1 else 0)
 |[],m,_,_,j=>by simp[eP]
 |i::s,m,hs,hi,j=>by
  show(eP (s.map fun(x:Nat)=>(x:Int)) (m.set ((i:Int)).toNat (m.getD ((i:Int)).toNat 0-1))).getD j 0=_;rw[aq,yN8 s _ (by grind) (by grind),fm];grind
def uu (B:BT)(l:List zH)(i:Nat):Bool:=gH B.1 B.2.1 B.2.2.1 B.2.2.2 l i
theorem yOm B l {m}(hm:m.length=B.1.length) j:(eP (jX B l) m).getD j 0=m.getD j 0-(if j<B.1.length∧uu B l j=true then 1 else 0):=by
 have:=yN8 ((List.range B.1.length).filter fun i=>uu B l i) m (List.Nodup.sublist List.filter_sublist (by grind)) (by grind) j;unfold jX ug;rw[show(fun i=>gH B.1 B.2.1 B.2.2.1 B.2.2.2 l i)=fun i=>uu B l i from rfl,this];simp
theorem vYb {B l}:jX B l=[]↔∀j,j<B.1.length→uu B l j=false:=by
 unfold jX ug;rw[List.map_eq_nil_iff,List.filter_eq_nil_iff];constructor
 ·intro h j hj;have:=h j (by grind)
  simpa[uu] using this
 ·intro h i hi;have:=h i (by grind)
  simpa[uu] using this
theorem vBh {l many p}:∀{N},p∈mR l many N→∃i,i<N∧l.getD i pd=p∧su l many i=true
 |N+1,h=>by
  unfold mR at h;rw[List.mem_append] at h;rcases h with h|h
  ·obtain⟨i,h1,h2⟩:=vBh h;grind
  grind
theorem vN5 {B l}(hl:∀q∈l,yH B.1.length q){m j}(h:uu B (vK l m) j=true):1≤m.getD j 0:=by
 unfold uu gH at h;rw[ba,Bool.not_eq_true'] at h;have hn:=yA7 (n:=B.1.length) (l:=vK l m) (fun q hq=>hl q ((xq l m).subset hq)) j;rw[h.1] at hn;obtain⟨x,hx,he⟩:=NT.1 hn;obtain⟨i,h1,h2,h3⟩:=vBh (gh (d:=pd) hx);unfold su at h3;have NL:(l.getD i pd)=(vK l m).getD x pd:=h2;grind
inductive kK (B:BT) (l:List zH):AC→AC→Nat→Prop
 |stop {m:AC} (h:jX B (vK l m)=[]):kK B l m m 0
 |step {m f:AC} {n:Nat} (h:jX B (vK l m)≠[]) (h':kK B l (eP (jX B (vK l m)) m) f n):kK B l m f (n+1)
theorem vOd {B l m}(hm:m.length=B.1.length):uq (eP (jX B l) m) m:=by
 refine⟨ur _ _,fun i hi=>?_⟩;rw[yOm B l hm];omega
theorem uq.trans {u v w}(h:uq u v)(h':uq v w):uq u w:=⟨h.1.trans h'.1,fun i hi=>Int.le_trans (h.2 i (by have:=h'.1;omega)) (h'.2 i hi)⟩
theorem uq.refl v:uq v v:=⟨rfl,by simp⟩
theorem kK.le {B l m f n}(h:kK B l m f n)(hm:m.length=B.1.length):uq f m:=by
 induction h with
 |stop _=>exact uq.refl _
 |step _ _ ih=>exact(ih ((ur _ _).trans hm)).trans (vOd hm)
theorem kK.final {B l m f n}(h:kK B l m f n):jX B (vK l f)=[]:=by
 induction h with
 |stop h=>exact h
 |step _ _ ih=>exact ih
def oS (m:AC):Prop:=∀i,0≤m.getD i 0
theorem Oo {B l}(hl:∀q∈l,yH B.1.length q){m}(hm:m.length=B.1.length)(h0:oS m):oS (eP (jX B (vK l m)) m):=by
 intro i;rw[yOm B _ hm];have:=h0 i;split
 ·rename_i c;have:=vN5 hl c.2;omega
 ·omega
theorem kK.nonneg {B l}(hl:∀q∈l,yH B.1.length q){m f n}(h:kK B l m f n)(hm:m.length=B.1.length)(h0:oS m):oS f:=by
 induction h with
 |stop _=>exact h0
 |step _ _ ih=>exact ih ((ur _ _).trans hm) (Oo hl hm h0)
def mS (m:AC):Int:=zO (fun x=>x) m
theorem yZ8:∀m i x,i<m.length→mS (m.set i x)=mS m-m.getD i 0+x
 |y::m,0,x,_=>by
  show x+mS m=y+mS m-y+x;omega
 |y::m,i+1,x,h=>by
  show y+mS (m.set i x)=y+mS m-m.getD i 0+x;rw[yZ8 m i x (by simp_all)];omega
theorem yLf:∀s m,(∀i∈s,0≤i∧i<(m.length:Int))→mS (eP s m)=mS m-s.length
 |[],m,_=>by simp[eP]
 |i::s,m,h=>by
  have hi:=h i (by simp);show mS (eP s (m.set i.toNat (m.getD i.toNat 0-1)))=_;rw[yLf s _ (by grind),yZ8 _ _ _ (by omega)];grind
theorem Vz {B l}:∀i∈jX B l,0≤i∧i<(B.1.length:Int):=by
 intro i hi;obtain⟨x,hx,rfl⟩:=List.mem_map.1 hi;simp_all
theorem yW1:∀{m},oS m→0≤mS m
 |[],_=>Int.le_refl 0
 |x::m,h=>by
  have h1:0≤x:=h 0;have h2:=yW1 (m:=m) (fun i=>h (i+1));show 0≤x+mS m;omega
theorem yUp {B l}(hl:∀q∈l,yH B.1.length q):∀(N:Nat) m,m.length=B.1.length→oS m→mS m≤N→∃f n,kK B l m f n∧n≤N
 |N,m,hm,h0,hN=>by
  by_cases c:jX B (vK l m)=[]
  ·exact⟨m,0,.stop c,by simp⟩
  ·have ht:=yLf (jX B (vK l m)) m (by rw[hm];exact Vz);have hp:0<(jX B (vK l m)).length:=by grind
   have h1:=Oo hl hm h0;have h2:=yW1 h1;obtain⟨N,rfl⟩:∃x,N=x+1:=⟨N-1,by omega⟩;obtain⟨f,n,h3,h4⟩:=yUp hl N _ ((ur _ _).trans hm) h1 (by omega);exact⟨f,n+1,.step c h3,by omega⟩
theorem VA l many:∀N,(mR l many N).length≤N
 |0=>Nat.le_refl _
 |N+1=>by
  unfold mR;have:=VA l many N;grind
theorem vQu (l:List zH) i (hi:i<l.length) f:jT (l.take (i+1)) f=jT (l.take i) f+(if(l.getD i pd).2.1=f then 1 else 0):=by
 unfold jT;rw[A2 _ _ _ pd hi,List.length_append];unfold wU;grind
def gJ (l:List zH)(n:Nat):AC:=(List.range n).map fun(i:Nat)=>((jT l i:Nat):Int)
theorem yVj l i:gJ l (i+1)=gJ l i++[((jT l i:Nat):Int)]:=by
 unfold gJ;rw[List.range_succ,List.map_append];rfl
theorem xr l n:(gJ l n).length=n:=by
 unfold gJ;simp
theorem JR:∀s m i,m.getD i 0-s.length≤(eP s m).getD i 0∧(eP s m).getD i 0≤m.getD i 0
 |[],m,i=>by simp[eP]
 |x::s,m,i=>by
  have h:=JR s (m.set x.toNat (m.getD x.toNat 0-1)) i;rw[fm] at h;have e:eP (x::s) m=eP s (m.set x.toNat (m.getD x.toNat 0-1)):=rfl;rw[e,List.length_cons];by_cases c:x.toNat=i∧x.toNat<m.length
  ·grind
  omega
theorem yRa (s m:AC) i (hi:i<s.length):eP (s.take (i+1)) m=(eP (s.take i) m).set (s.getD i 0).toNat ((eP (s.take i) m).getD (s.getD i 0).toNat 0-1):=by
 unfold eP;rw[←fH s i 0 hi,List.foldl_append];rfl
theorem yYg g:∀n,zO (fun x=>x) ((List.range n).map g)=qG g n
 |0=>rfl
 |n+1=>by
  rw[List.range_succ,List.map_append,lU,yYg g n];show qG g n+(g n+0)=qG g n+g n;omega
theorem vQ6 l f:((jT l f:Nat):Int)=zO (fun p:zH=>if p.2.1=f then 1 else 0) l:=by
 induction l with
 |nil=>rfl
 |cons p l ih=>
  unfold jT wU at*
  show _=(if p.2.1=f then(1:Int) else 0)+zO _ l;grind
theorem vWf l n:mS (gJ l n)≤l.length:=by
 unfold mS gJ;rw[yYg (fun i:Nat=>((jT l i:Nat):Int)) n,se (h:=fun j=>zO (fun p:zH=>if p.2.1=(j:Int) then 1 else 0) l) (fun j _=>vQ6 l j),M9];have := (Ds (A := 1) (l := l) (g := fun p : zH => qG (fun j => if p.2.1 = (j : Int) then 1 else 0) n) (fun p _=>by
  by_cases c:0≤p.2.1
  ·obtain⟨f,hf⟩:∃f:Nat,p.2.1=f:=⟨p.2.1.toNat,by omega⟩;have e:qG (fun j=>if p.2.1=(j:Int) then(1:Int) else 0) n=qG (fun j=>if j=f then 1 else 0) n:=by grind
   rw[e,AI];omega
  ·have e:qG (fun j=>if p.2.1=(j:Int) then(1:Int) else 0) n=qG (fun _=>0) n:=by grind
   rw[e,Uc];omega)).2
 omega
theorem yQb l n i:(gJ l n).getD i 0=if i<n then((jT l i:Nat):Int) else 0:=by
 unfold gJ;grind
theorem vSr l f:jT l f≤l.length:=List.length_filter_le _ _
theorem Oq {l}(hl:l.length≤1000) n:oS (gJ l n)∧∀i,(gJ l n).getD i 0≤1000:=by
 refine⟨fun i=>?_,fun i=>?_⟩
 ·rw[yQb];omega
 ·rw[yQb];have:=vSr l i;omega
theorem JS {B:BT}{l}(hl:∀q∈l,yH B.1.length q)(bP:l.length≤64) m:vZ B.1.length (vK l m):=
 ⟨fun p hp=>hl p ((xq l m).subset hp),by have:=(xq l m).length_le;omega⟩
def yV (l:List zH)(t:Int):List zH:=l.filter (jz t)
theorem JT {n l t}(h:∀q∈l,yH n q):∀q∈yV l t,yH n q:=fun q hq=>h q (List.mem_filter.1 hq).1
theorem xu l t:(yV l t).length≤l.length:=List.length_filter_le _ _
theorem VB {B}(hb:qN B){l}(hl:∀q∈l,yH B.1.length q)(bP:l.length≤64) t:
  ∃f n,kK B (yV l t) (gJ (yV l t) B.1.length) f n∧n≤(yV l t).length:=by
 have h1:=Oq (l:=yV l t) (by have:=xu l t;omega) B.1.length;have h2:=vWf (yV l t) B.1.length;exact yUp (JT hl) (yV l t).length _ (xr _ _) h1.1 (by omega)
def oT (l:List zH)(hs:List zH):List zH:=hs.foldl (fun l p=>eO l p.1) l
theorem VC l id:(eO l id).length≤l.length∧List.Sublist (eO l id) l:=by
 unfold eO il;cases vW l id with
 |none=>simp
 |some x=>exact⟨(ui l x).length_le,ui l x⟩
theorem Ot:∀hs l,(oT l hs).length≤l.length∧List.Sublist (oT l hs) l
 |[],l=>⟨Nat.le_refl _,List.Sublist.refl _⟩
 |p::hs,l=>by
  obtain⟨h1,h2⟩:=Ot hs (eO l p.1);obtain⟨h3,h4⟩:=VC l p.1;exact⟨Nat.le_trans h1 h3,h2.trans h4⟩
theorem yO5 (l hs:List zH) i (hi:i<hs.length):oT l (hs.take (i+1))=eO (oT l (hs.take i)) (hs.getD i pd).1:=by
 unfold oT;rw[←fH hs i pd hi,List.foldl_append];rfl
def Fo (B:BT)(l hs:List zH)(r:List qX×EQ×AC×EQ×Int):(List (Int×Int×Int))×EQ×AC×EQ×(List zH)×(List zH):=
 bif !(decide (r.2.2.2.2=0)) then(B.1,B.2.1,B.2.2.1,B.2.2.2,l,[]) else(r.1,r.2.1,r.2.2.1,r.2.2.2.1,oT l hs,hs)
theorem VD {k:Nat}{l:List zH}(hk:l.length<k)(hl:qO l){many:AC}(h0:oS many)(hm:∀i,many.getD i 0≤1000)(Fg:many.length≤1000):Fp k l many=some (vK l many):=by
 unfold qO at hl;unfold Fp VE VF;rw[qJ (by omega) (by omega)];simp only[aj,ae];obtain ⟨s', h1, h2, h3, h4⟩ := vJ (L := fun n i (s : AC × List zH) => Fq k n l l.length i s.1 s.2) (N := l.length) (fun s => s) (fun i s => s.1.length = many.length ∧ (∀ f : Nat, f < many.length → s.1.getD f 0 = if many.getD f 0 ≤ (jT (l.take i) f : Nat) then 0 else many.getD f 0 - (jT (l.take i) f : Nat)) ∧ s.2 = mR l many i) (fun n s _=>by
  show Fs k _ l l.length l.length s.1 s.2=_;unfold Fs;simp only [qP, ab (Nat.lt_irrefl _), ak]) (fun n i s hi hs=>by
  obtain⟨s1,s2,s3⟩:=hs;have dW:s.2.length≤i:=by rw[s3];exact VA l many i
  show∃s',Fs k _ l l.length i s.1 s.2=_∧_;unfold Fs VG;simp only[qB,qE hi (show l.length<9223372036854775808 by omega),qP,aq,aa hi,aj,nL (show s.2.length≤1000 by omega)];have nA:=fun f=>vQu l i hi f
  have H7:∀f:Nat,f<many.length→(l.getD i pd).2.1≠(f:Int)→(if many.getD f 0≤(jT (l.take (i+1)) f:Nat) then(0:Int) else many.getD f 0-(jT (l.take (i+1)) f:Nat))=if many.getD f 0≤(jT (l.take i) f:Nat) then 0 else many.getD f 0-(jT (l.take i) f:Nat):=by
   intro f hf bm;rw[nA f,if_neg bm,Nat.add_zero]
  have skip:su l many i=false→(∀f:Nat,f<many.length→(l.getD i pd).2.1=(f:Int)→many.getD f 0≤(jT (l.take i) f:Nat))→(s.1.length=many.length∧(∀f:Nat,f<many.length→s.1.getD f 0=if many.getD f 0≤(jT (l.take (i+1)) f:Nat) then 0 else many.getD f 0-(jT (l.take (i+1)) f:Nat))∧s.2=mR l many (i+1)):=by
   intro hh hz;refine⟨s1,fun f hf=>?_,?_⟩
   ·by_cases c:(l.getD i pd).2.1=(f:Int)
    ·have:=hz f hf c;rw[s2 f hf,if_pos this,nA f,if_pos c,if_pos (by omega)]
    ·rw[H7 f hf c,s2 f hf]
   ·show _=mR l many i++_;rw[hh,s3];simp
  cases e1:decide ((l.getD i pd).2.1<0) with
  |true=>
   refine⟨s,rfl,skip ?_ ?_⟩
   ·unfold su;rw[aX] at e1;rw[ab (show¬(l.getD i pd).2.1≥0 by omega)];rfl
   ·intro f hf c;rw[aX] at e1;omega
  |false=>
   cases e2:decide ((l.getD i pd).2.1≥((s.1.length:Nat):Int)) with
   |true=>
    refine⟨s,rfl,skip ?_ ?_⟩
    ·unfold su;rw[aX] at e2;rw[ab (show¬(l.getD i pd).2.1<(many.length:Int) by omega),Bool.and_false];rfl
    ·intro f hf c;rw[aX] at e2;omega
   |false=>
    rw[decide_eq_false_iff_not] at e1 e2;obtain⟨f,hf⟩:∃f:Nat,(l.getD i pd).2.1=f:=⟨(l.getD i pd).2.1.toNat,by omega⟩;have zh:f<many.length:=by omega
    have ek:(l.getD i (0,(0,(0,(0,(0,(0,0))))))).2.1=f:=hf;simp only[ak,ek,qB,aq,s1,aa zh,aj];have zm:su l many i=decide (((jT (l.take i) f:Nat):Int)<many.getD f 0):=by
     unfold su;rw[hf,aa (show(f:Int)≥0 by omega),aa (show(f:Int)<(many.length:Int) by omega),aq];rfl
    have lX:=s2 f zh;cases e3:decide (s.1.getD f 0<1) with
    |true=>
     rw[aX,lX] at e3;have hle:many.getD f 0≤(jT (l.take i) f:Nat):=by
      by_cases c:many.getD f 0≤(jT (l.take i) f:Nat)
      ·exact c
      ·rw[if_neg c] at e3;omega
     refine⟨s,rfl,skip (by rw[zm];exact ab (by omega)) ?_⟩;intro g hg c;have:g=f:=by omega
     subst this;exact hle
    |false=>
     rw[decide_eq_false_iff_not] at e3;have hgt:¬many.getD f 0≤(jT (l.take i) f:Nat):=by
      intro c;rw[lX,if_pos c] at e3;omega
     rw[if_neg hgt] at lX;have lO:=hm f;have hw:zA (s.1.getD f 0-1)=s.1.getD f 0-1:=zN (by omega) (by omega);refine⟨(s.1.set f (s.1.getD f 0-1),s.2++[l.getD i pd]),?_,?_,?_,?_⟩
     ·simp only[ak,ae,aj,hw]
     ·rw[List.length_set];exact s1
     ·intro g hg;rw[fm];by_cases c:f=g
      ·subst c;rw[if_pos ⟨rfl,by omega⟩,nA f,if_pos hf,lX];by_cases d:many.getD f 0≤((jT (l.take i) f+1:Nat):Int)
       ·rw[if_pos d];omega
       ·rw[if_neg d];omega
      ·rw[if_neg (fun e=>c e.1),H7 g hg (by omega)];exact s2 g hg
     ·show s.2++[l.getD i pd]=mR l many i++_;rw[zm,aa (by omega),s3];rfl) (s:=(many,[])) hk ⟨rfl,fun f hf=>by
   have:(jT (l.take 0) f:Nat)=0:=rfl;have h0f:=h0 f;rw[this];by_cases c:many.getD f 0≤((0:Nat):Int)
   ·rw[if_pos c];show many.getD f 0=0;omega
   ·rw[if_neg c];show many.getD f 0=_;omega,rfl⟩
 have ga:Fq k k l l.length 0 many []=some s':=h1;rw[ga];simp only[ae,h4];rfl
theorem VH {k l}(hk:l.length<k)(hl:qO l) f:JU k l f=some (l.filter (wU f)):=by
 unfold JU VI;have := Jq pd (L := fun n i s => JV k n l l.length i f s) (wU f) id (fun n s=>by
  show Ft k _ l l.length l.length f s=_;unfold Ft;simp) (fun n i s hi hs=>by
  show Ft k _ l l.length i f s=_;unfold Ft VJ;unfold qO at hl;simp[qB,qE hi (by grind),nL (show s.length≤1000 by omega)];unfold wU;grind) hk
 simp_all
theorem vDm {k}{B:BT}{l}(hk:l.length<k)(hl:qO l)(hn:B.1.length<k)(hn':B.1.length≤1000) s7:
  Bc k k s7 B.1.length 0 B.1 B.2.1 B.2.2.1 B.2.2.2 [] l=some (s7,B.1,B.2.1,B.2.2.1,B.2.2.2,gJ l B.1.length,l):=by
 obtain ⟨s', h1, h2⟩ := vJ (L := fun n i (s : AC) => Bc k n s7 B.1.length i B.1 B.2.1 B.2.2.1 B.2.2.2 s l) (N := B.1.length) (fun s => (s7, B.1, B.2.1, B.2.2.1, B.2.2.2, s, l)) (fun i s => s = gJ l i) (fun n s _=>by
  show Fu k _ s7 B.1.length B.1.length B.1 B.2.1 B.2.2.1 B.2.2.2 s l=_;unfold Fu;simp) (fun n i s hi hs=>by
  refine⟨_,?_,(yVj l i).symm⟩;show Fu k _ s7 B.1.length i B.1 B.2.1 B.2.2.1 B.2.2.2 s l=_;unfold Fu;have hr:zP (s.length+1) 8=true:=by rw[hs,xr];exact qJ (by omega) (by omega)
  simp[aa hi,VH hk hl,hr,qE hi (by grind)];rw[hs];rfl) (s:=[]) hn rfl
 simp_all
theorem VK {k}{B:BT}{l:List zH}{s m}(hk:s.length<k)(hs:s.length≤1000)(fh:∀x∈s,0≤x∧x<(m.length:Int))(h0:oS m)(hm:∀i,m.getD i 0≤1000) s7:
  Fv k k s7 s.length 0 B.1 B.2.1 B.2.2.1 B.2.2.2 m l s=some (s7,B.1,B.2.1,B.2.2.1,B.2.2.2,eP s m,l):=by
 obtain ⟨s', h1, h2⟩ := vJ (L := fun n i (r : AC) => Fv k n s7 s.length i B.1 B.2.1 B.2.2.1 B.2.2.2 r l s) (N := s.length) (fun r => (s7, B.1, B.2.1, B.2.2.1, B.2.2.2, r, l)) (fun i r => r = eP (s.take i) m) (fun n r _=>by
  show Fw k _ s7 s.length s.length B.1 B.2.1 B.2.2.1 B.2.2.2 r l s=_;unfold Fw;simp) (fun n i r hi hr=>by
  refine⟨_,?_,(yRa s m i hi).symm⟩;show Fw k _ s7 s.length i B.1 B.2.1 B.2.2.1 B.2.2.2 r l s=_;unfold Fw;obtain⟨b1,b2⟩:=fh _ (gh (d:=0) hi);have tx:r.length=m.length:=by rw[hr,ur]
  have hb:zB (s.getD i 0) r.length=true:=fl b1 (by omega);have T8:=JR (s.take i) m (s.getD i 0).toNat;have HZ:=h0 (s.getD i 0).toNat;have lO:=hm (s.getD i 0).toNat;have bh:(s.take i).length≤s.length:=by grind
  have hw:zA (r.getD (s.getD i 0).toNat 0-1)=r.getD (s.getD i 0).toNat 0-1:=by
   rw[hr];exact zN (by omega) (by omega)
  simp only[qP,qB,aq,aa hi,aj,hb,hw,qE hi (by grind)];rw[hr]) (s:=m) hk rfl
 simp_all
theorem vRa {k}(hk:100<k){B}(hb:qN B){l}(hl:∀q∈l,yH B.1.length q)(bP:l.length≤64){m f n}(h:kK B l m f n):
  ∀N (s7:Int),m.length=B.1.length→oS m→(∀i,m.getD i 0≤1000)→n<N→0≤s7→s7+n<1000000→
  JW k N s7 B.1 B.2.1 B.2.2.1 B.2.2.2 m l=some (s7+n+1,f):=by
 induction h with
 |@stop m h=>
  intro N s7 hm h0 h1 hn hs rK;obtain⟨N,rfl⟩:∃x,N=x+1:=⟨N-1,by omega⟩;have gl:=hb.n6;show Fx k _ s7 B.1 B.2.1 B.2.2.1 B.2.2.2 m l=_;unfold Fx;have hS:=UT hk hb (JS hl bP m);have oq:AZ k B.1 B.2.1 B.2.2.1 B.2.2.2 (vK l m)=some (jX B (vK l m)):=hS;rw[VD (by omega) (show qO l by show l.length≤1000;omega) h0 h1 (by omega)];simp[ae];rw[oq,h];have w:zA (s7+1)=s7+1:=zN (by omega) (by omega);rw[w];simp
 |@step m f n h h' ih=>
  intro N s7 hm h0 h1 hn hs rK;obtain⟨N,rfl⟩:∃x,N=x+1:=⟨N-1,by omega⟩;have gl:=hb.n6;show Fx k _ s7 B.1 B.2.1 B.2.2.1 B.2.2.2 m l=_;unfold Fx;have hS:=UT hk hb (JS hl bP m);have oq:AZ k B.1 B.2.1 B.2.2.1 B.2.2.2 (vK l m)=some (jX B (vK l m)):=hS;rw[VD (by omega) (show qO l by show l.length≤1000;omega) h0 h1 (by omega)];simp only[ae];rw[oq];simp only[ae];have w:zA (s7+1)=s7+1:=zN (by omega) (by omega);have bm : decide ((((jX B (vK l m)).length : Nat) : Int) = 0) = false := ab (by
   simp_all)
  have dW:(jX B (vK l m)).length≤B.1.length:=by
   unfold jX ug;grind
  rw[bm,w];rw[VK (by omega) (by omega) (by rw[hm];exact Vz) h0 h1];simp;have VL:=Oo hl hm h0;have:=ih N (s7+1) ((ur _ _).trans hm) VL (fun i=>by have:=(JR (jX B (vK l m)) m i).2;have:=h1 i;omega) (by omega) (by omega) (by omega);rw[this]
  congr 2
  omega
theorem vMn {k}(hk:100<k){B}(hb:qN B){l}(hl:∀q∈l,yH B.1.length q)(bP:l.length≤64) t {f n}(hn:n≤l.length)(h:kK B (yV l t) (gJ (yV l t) B.1.length) f n):
  Ou k B.1 B.2.1 B.2.2.1 B.2.2.2 l t=some (f,((n+1:Nat):Int)):=by
 have gl:=hb.n6;have hr:=xu l t;have h1:=Oq (l:=yV l t) (by omega) B.1.length;unfold Ou;rw[UX (by omega) (by show l.length≤1000;omega)];simp;have e:Bc k k 0 B.1.length 0 B.1 B.2.1 B.2.2.1 B.2.2.2 [] (l.filter (jz t))=_:=vDm (k:=k) (B:=B) (l:=yV l t) (by omega) (by show(yV l t).length≤1000;omega) (by omega) (by omega) 0;rw[e];simp;rw[vRa hk hb (JT hl) (by omega) h k 0 (xr _ _) h1.1 h1.2 (by omega) (by omega) (by omega)];simp
theorem vFr {k}{C:BT}{l hs:List zH}(hl:l.length<k)(dM:l.length≤1000)(hk:hs.length<k)(hh:hs.length≤1000):
  Bd k k l hs.length 0 C.1 C.2.1 C.2.2.1 C.2.2.2 hs=some (oT l hs,C.1,C.2.1,C.2.2.1,C.2.2.2,hs):=by
 obtain ⟨s', h1, h2⟩ := vJ (L := fun n i (s : List zH) => Bd k n s hs.length i C.1 C.2.1 C.2.2.1 C.2.2.2 hs) (N := hs.length) (fun s => (s, C.1, C.2.1, C.2.2.1, C.2.2.2, hs)) (fun i s => s = oT l (hs.take i)) (fun n s _=>by
  show Fy k _ s hs.length hs.length C.1 C.2.1 C.2.2.1 C.2.2.2 hs=_;unfold Fy;simp) (fun n i s hi hr=>by
  refine⟨_,?_,(yO5 l hs i hi).symm⟩;show Fy k _ s hs.length i C.1 C.2.1 C.2.2.1 C.2.2.2 hs=_;unfold Fy;have dW:=(Ot (hs.take i) l).1;rw[←hr] at dW⊢;simp[qB,aa hi,A6 (show s.length<k by omega) (show qO s by show s.length≤1000;omega),qE hi (by grind)];rfl) (s:=l) hk rfl
 simp_all
theorem VM {k:Nat}(hk:100<k){B:BT}(hb:qN B){l:List zH}(hl:∀q∈l,yH B.1.length q)(bP:l.length≤64)(t:Int){f:AC}{n:Nat}(hn:n≤l.length)(h:kK B (yV l t) (gJ (yV l t) B.1.length) f n)
  {r:List qX×EQ×AC×EQ×Int} (hr:pL k B.1 B.2.1 B.2.2.1 B.2.2.2 (vK (yV l t) f)=some r):Be k B.1 B.2.1 B.2.2.1 B.2.2.2 l t=some (Fo B l (vK (yV l t) f) r):=by
 have gl:=hb.n6;have tx:=xu l t;have h1:=Oq (l:=yV l t) (by omega) B.1.length;have hle:=h.le (xr _ _);have h0:=h.nonneg (JT hl) (xr _ _) h1.1;have zh:f.length=B.1.length:=hle.1.trans (xr _ _);have hf:∀i,f.getD i 0≤1000:=fun i=>by
  by_cases c:i<(gJ (yV l t) B.1.length).length
  ·have:=hle.2 i c;have:=h1.2 i;omega
  ·rw[List.getD_eq_getElem?_getD,List.getElem?_eq_none (by have:=hle.1;omega)];show(0:Int)≤1000;omega
 have Ov:=(xq (yV l t) f).length_le;unfold Be;rw[vMn hk hb hl bP t hn h,UX (by omega) (by show l.length≤1000;omega)];simp only[ae];have e:Fp k (l.filter (jz t)) f=_:=VD (k:=k) (l:=yV l t) (by omega) (by show(yV l t).length≤1000;omega) h0 hf (by omega);rw[e];simp only[ae];rw[hr];simp only[ae];unfold Fo;cases decide (r.2.2.2.2=0) with
 |false=>rfl
 |true=>
  simp only[aA,ak];have e2:Bd k k l ((List.length (vK (yV l t) f):Nat):Int) 0 r.1 r.2.1 r.2.2.1 r.2.2.2.1 (vK (yV l t) f)=_:=vFr (C:=(r.1,r.2.1,r.2.2.1,r.2.2.2.1)) (by omega) (by omega) (by omega) (by omega);rw[e2];rfl
theorem vPd {l x}(hx:x<l.length):List.Perm (l.getD x pd::yF l x) l:=by
 unfold yF;have h:List.Perm (l.getD x pd::(l.take x++l.drop (x+1))) (l.take x++l.getD x pd::l.drop (x+1)):=by grind
 simp_all
theorem Ow {l}(hd:qK l){p}(hp:p∈l):List.Perm (p::eO l p.1) l:=by
 obtain⟨x,hx⟩:=N1 hp;have h:=kI hx;have e:l.getD x pd=p:=hd.eq_of (by grind) hp h.2;unfold eO il;have:=vPd h.1;simp_all
theorem gI.perm {k t B C l done m}(h:gI k t B l done C m)(hd:qK l):List.Perm (done++m) l:=by
 induction h with
 |stop _=>rfl
 |step h _ ih=>
  have hp:=Fe (Ba h).1;exact((ih (List.Pairwise.sublist (uo hp).2 hd)).cons _).trans (Ow hd hp)
theorem jQ.perm {k t B C l done m}(h:jQ k t B l done C m)(hd:qK l):List.Perm (done++m) l:=by
 induction h with
 |stop _=>rfl
 |step h _ ih=>
  obtain⟨hp,hq,oR,_⟩:=Fi h;obtain⟨h1,h2⟩:=Fj hd hp hq oR;have vt:qK (eO _ _):=List.Pairwise.sublist (uo hp).2 hd;have oO:=Vv hp hq (yYh hd hp hq oR);exact(((ih (List.Pairwise.sublist h2 hd)).cons _).cons _).trans (((Ow vt oO).cons _).trans (Ow hd hp))
theorem gI.final {k t B C l done m}(h:gI k t B l done C m):jP k C (vS m t)=none:=by
 induction h with
 |stop h=>exact h
 |step _ _ ih=>exact ih
theorem jQ.final {k t B C l done m}(h:jQ k t B l done C m):fz k C m t=none:=by
 induction h with
 |stop h=>exact h
 |step _ _ ih=>exact ih
theorem qK.perm {l m}(h:qK l)(hp:List.Perm m l):qK m:=(List.Perm.pairwise_iff (R:=fun p q:zH=>p.1≠q.1) (by grind) hp.symm).1 h
inductive lY (k:Nat) (t:Int):BT→List zH→List zH→BT→List zH→Prop
 |stop {B C:BT} {l m d:List zH} (h1:gI k t B l d C m) (h2:fz k C m t=none):lY k t B l d C m
 |step {B C D E:BT} {l m n o d e f:List zH} (h1:gI k t B l d C m) (h2:jQ k t C m e D n) (ne:e≠[]) (h':lY k t D n f E o):lY k t B l (d++e++f) E o
theorem lY.perm {k t B C l done m}(h:lY k t B l done C m)(hd:qK l):List.Perm (done++m) l:=by
 induction h with
 |stop h1 _=>exact h1.perm hd
 |@step B C D E l m n o d e f h1 h2 ne h' ih=>
  have p1:=h1.perm hd;have hd1:=hd.perm p1;have hm:qK m:=(List.pairwise_append.1 hd1).2.1;have p2:=h2.perm hm;have hn:qK n:=(List.pairwise_append.1 (hm.perm p2)).2.1;grind
theorem lY.final {k t B C l done m}(h:lY k t B l done C m):jP k C (vS m t)=none∧fz k C m t=none:=by
 induction h with
 |stop h1 h2=>exact⟨h1.final,h2⟩
 |step _ _ _ _ ih=>exact ih
theorem gI.none {k t B C l done m}(h:gI k t B l done C m)(hn:jP k B (vS l t)=none):done=[]∧C=B∧m=l:=by
 cases h with
 |stop _=>simp
 |step h _=>simp_all
theorem jQ.none {k t B C l done m}(h:jQ k t B l done C m)(hn:fz k B l t=none):done=[]∧C=B∧m=l:=by
 cases h with
 |stop _=>simp
 |step h _=>simp_all
theorem jQ.nil {k t B C l m}(h:jQ k t B l [] C m):fz k B l t=Option.none∧C=B∧m=l:=by
 cases h with
 |stop h=>simp_all
theorem lY.none {k t B C l done m}(h:lY k t B l done C m)(h1:jP k B (vS l t)=Option.none)(h2:fz k B l t=Option.none):done=[]∧C=B∧m=l:=by
 cases h with
 |stop g1 _=>exact g1.none h1
 |step g1 g2 ne _=>
  obtain⟨rfl,rfl,rfl⟩:=g1.none h1;obtain⟨rfl,_,_⟩:=g2.none h2;simp_all
theorem vBy {k:Nat}(hk:200≤k)(t:Int):∀(n:Nat) (B:BT) (l r:List zH),qN B→qK l→l.length≤100→l.length<n→r.length+l.length≤900→
  ∃(C:BT) (m done:List zH),JX k n t l B.1 B.2.1 B.2.2.1 B.2.2.2 r=some (m,C.1,C.2.1,C.2.2.1,C.2.2.2,r++done)∧lY k t B l done C m∧qN C∧C.1.length=B.1.length∧List.Sublist m l
 |0,_,_,_,_,_,_,h,_=>absurd h (Nat.not_lt_zero _)
 |n+1,B,l,r,hb,hd,hl,hn,hr=>by
  obtain⟨C,m,d,f1,f2,f3,f4,f5⟩:=vK1 hk hb hd hl t;have p1:=f2.perm hd;have l1:=p1.length_eq;rw[List.length_append] at l1;have hm:qK m:=List.Pairwise.sublist f5 hd;obtain⟨D,o,e,g1,g2,g3,g4,g5⟩:=vR5 hk f3 hm (by omega) t;have p2:=g2.perm hm;have l2:=p2.length_eq;rw[List.length_append] at l2;have r1:zP (r.length+d.length) 56=true:=qJ (by omega) (by omega);have r2:zP ((r++d).length+e.length) 56=true:=qJ (by rw[List.length_append];omega) (by grind);show∃C' m' aa7,Ox k _ t l B.1 B.2.1 B.2.2.1 B.2.2.2 r=_∧_;unfold Ox;rw[f1];simp only[ae];rw[g1];simp only[ae,r1,r2,aj];cases e with
  |nil=>
   obtain⟨h1,h2,h3⟩:=g2.nil;subst h2;subst h3;refine⟨D,o,d,?_,.stop f2 h1,f3,f4,f5⟩;simp
  |cons p e=>
   have bh:o.length+(e.length+1)=m.length:=by simp at l2;omega
   obtain⟨E,q,f,k1,k2,k3,k4,k5⟩:=vBy hk t n D o (r++d++(p::e)) g3 (List.Pairwise.sublist g5 hm) (by omega) (by omega) (by simp;omega);refine⟨E,q,d++(p::e)++f,?_,.step f2 g2 (by simp) k2,k3,k4.trans (g4.trans f4),k5.trans (g5.trans f5)⟩;grind
theorem Fz {k}(hk:200≤k){B}(hb:qN B){l}(hd:qK l)(hl:l.length≤100) t:
  ∃(C:BT) (m done:List zH),JY k B.1 B.2.1 B.2.2.1 B.2.2.2 l t=some (C.1,C.2.1,C.2.2.1,C.2.2.2,m,done)∧lY k t B l done C m∧qN C∧C.1.length=B.1.length∧List.Sublist m l:=by
 obtain⟨C,m,done,h1,h3⟩:=vBy hk t k B l [] hb hd hl (by omega) (by grind);refine⟨C,m,done,?_,h3⟩;unfold JY;simp_all
theorem yWx:∀hs l,qK l→qK hs→(∀q∈hs,q∈l)→List.Perm (hs++oT l hs) l
 |[],l,_,_,_=>List.Perm.refl _
 |p::hs,l,hd,hh,fh=>by
  have hp:=fh p (by simp);obtain⟨h1,h2⟩:=uo hp;have hc:=List.pairwise_cons.1 hh;have:=yWx hs (eO l p.1) (List.Pairwise.sublist h2 hd) hc.2 (fun q hq=>Vv hp (by grind) (by grind));exact(this.cons p).trans (Ow hd hp)
theorem vY9 {k}(hk:100<k){B}(hb:qN B):pL k B.1 B.2.1 B.2.2.1 B.2.2.2 []=some (B.1,B.2.1,B.2.2.1,B.2.2.2,0):=by
  obtain⟨r,h1,h3⟩:=NH hk hb (l:=[]) (by simp);have aW:vZ B.1.length []:=⟨by simp,by simp⟩;obtain⟨a',p',h4,h5⟩:=h3.1 aW;have an:uc B.1.length B.1 B.2.2.2 [] B.1 B.2.2.2:={
    al:=rfl
    acct:=fun i hi=>by
      have hr:0≤(B.1.getD i ad).2.2:=by
        have:=hb.nums.res i hi;omega
      show B.1.getD i ad=((B.1.getD i ad).1+0,(B.1.getD i ad).2.1,wZ (B.1.getD i ad).2.2 0);have e:wZ (B.1.getD i ad).2.2 0=(B.1.getD i ad).2.2:=by
        unfold wZ;omega
      simp_all
    pl:=hb.pl
    pr:=hb.pr
    cell:=fun i hi j hj=>by show _=_+0-0;omega}
  obtain⟨e1,e2⟩:=h4.same an;subst e1;subst e2;rw[Nt.2 hb] at h5;simp_all
theorem VN {k:Nat}(hk:200≤k){B:BT}(hb:qN B){l:List zH}(hd:qK l)(hl:∀q∈l,yH B.1.length q)(bP:l.length≤64)(t:Int):
  ∃(C:BT) (m done:List zH),Be k B.1 B.2.1 B.2.2.1 B.2.2.2 l t=some (C.1,C.2.1,C.2.2.1,C.2.2.2,m,done)∧qN C∧C.1.length=B.1.length∧List.Sublist m l∧List.Perm (done++m) l∧(done=[]→C=B∧m=l):=by
 obtain⟨f,n,h,hn⟩:=VB hb hl bP t;have tx:=xu l t;have cM:=xq (yV l t) f;have Ov:=cM.length_le;obtain⟨r,h1,h2,h3⟩:=Fc (k:=k) (by omega) hb (l:=vK (yV l t) f) (by omega);have hs:=Og hb h3;have g1:=VM (k:=k) (by omega) hb hl bP t (by omega) h h1;unfold Fo at g1;cases c:decide (r.2.2.2.2=0) with
 |false=>
  rw[c] at g1;exact⟨B,l,[],g1,hb,rfl,List.Sublist.refl _,List.Perm.refl _,fun _=>⟨rfl,rfl⟩⟩
 |true=>
  rw[c] at g1;have dW:List.Sublist (vK (yV l t) f) l:=cM.trans List.filter_sublist;have hal:r.1.length=B.1.length:=by
   by_cases c':vZ B.1.length (vK (yV l t) f)
   ·obtain⟨a',p',x,e⟩:=h3.1 c';cases hi:mP a' B.2.1 B.2.2.1 p' with
    |false=>rw[hi] at e;subst e;rfl
    |true=>rw[hi] at e;subst e;exact x.al
   ·rw[h3.2 c']
  refine⟨(r.1,r.2.1,r.2.2.1,r.2.2.2.1),oT l (vK (yV l t) f),vK (yV l t) f,g1,hs.2.1,hal,(Ot _ _).2,yWx _ _ hd (List.Pairwise.sublist dW hd) (fun q hq=>dW.subset hq),fun e=>?_⟩;rw[e] at h1⊢;rw[vY9 (by omega) hb] at h1;cases h1;exact⟨rfl,rfl⟩
theorem yZc {k}(hk:200≤k){B}(hb:qN B){l}(hd:qK l)(hl:∀q∈l,yH B.1.length q)(bP:l.length≤64) t all:
  ∃(C:BT) (m done:List zH),uv k B.1 B.2.1 B.2.2.1 B.2.2.2 l t all=some (C.1,C.2.1,C.2.2.1,C.2.2.2,m,done)∧qN C∧C.1.length=B.1.length∧List.Sublist m l∧List.Perm (done++m) l∧jP k C (vS m t)=none∧fz k C m t=none:=by
 obtain⟨C,m,d,f1,f2,f3,f4,f5⟩:=Fz hk hb hd (by omega) t;have p1:=f2.perm hd;have l1:=p1.length_eq;rw[List.length_append] at l1;unfold uv;rw[f1];simp only[ae];cases all with
 |false=>exact⟨C,m,d,rfl,f3,f4,f5,p1,f2.final⟩
 |true=>
  have hm:qK m:=List.Pairwise.sublist f5 hd;obtain⟨D,n,x,g1,g2,g3,g4,g5,g6⟩:=VN hk f3 hm (by grind) (by omega) t;have l2:=g5.length_eq;rw[List.length_append] at l2;rw[g1];simp only[ae];cases x with
  |nil=>
   obtain⟨rfl,rfl⟩:=g6 rfl;exact⟨D,n,d,rfl,f3,f4,f5,p1,f2.final⟩
  |cons p x=>
   have e1:decide ((((p::x).length:Nat):Int)=0)=false:=by grind
   have hn:qK n:=List.Pairwise.sublist g4 hm;obtain⟨E,o,y,k1,k2,k3,k4,k5⟩:=Fz hk g2 hn (by omega) t;have p3:=k2.perm hn;have l3:=p3.length_eq;rw[List.length_append] at l3;have r1:zP (d.length+(p::x).length) 56=true:=qJ (by omega) (by omega);have r2:zP ((d++(p::x)).length+y.length) 56=true:=qJ (by simp at l2⊢;omega) (by simp at l2⊢;omega);rw[k1];simp only[ae,r1,r2];refine⟨E,o,d++(p::x)++y,rfl,k3,k4.trans (g3.trans f4),k5.trans (g4.trans f5),?_,k2.final⟩;have e2:d++(p::x)++y++o=d++((p::x)++(y++o)):=by simp
   rw[e2];exact((p3.append_left (p::x)).append_left d).trans ((g5.append_left d).trans p1)
abbrev qZ:=Int×Int×Int×Int×Int×Int×Int×Int
instance Bf:DecidableEq qZ:=@instDecidableEqProd Int (Int×Int×Int×Int×Int×Int×Int) inferInstance (@instDecidableEqProd Int (Int×Int×Int×Int×Int×Int) inferInstance inferInstance)
def fq (to:Int)(p:zH):qZ:=(to,18,p.1,p.2.1,p.2.2.1,p.2.2.2.1,0,0)
def sv (p:zH):List qZ:=[fq p.2.1 p,fq p.2.2.1 p]
def yX:List zH→List qZ
 |[]=>[]
 |p::l=>sv p++yX l
theorem yLo:∀l m,yX (l++m)=yX l++yX m
 |[],_=>rfl
 |p::l,m=>by
  show sv p++yX (l++m)=sv p++yX l++yX m;rw[yLo l m,List.append_assoc]
theorem Bg:∀l,(yX l).length=2*l.length
 |[]=>rfl
 |p::l=>by
  show(sv p++yX l).length=_;rw[List.length_append,Bg l];simp[sv];omega
theorem vAi (l:List zH) i (hi:i<l.length):yX (l.take (i+1))=yX (l.take i)++sv (l.getD i pd):=by
 rw[←fH l i pd hi,yLo];rfl
theorem xv {n}(h:n≤1000):zP (n+1) 64=true:=qJ (by omega) (by omega)
theorem vSb {k}(hk:3≤k)(s8:List zH) s9 aw (r:List qZ)(hr:r.length≤900) p:
  xw k k s8 s9 aw 2 0 r p.1 p.2.1 p.2.2.1 p.2.2.2.1 p.2.2.2.2.1 p.2.2.2.2.2.1 p.2.2.2.2.2.2 [p.2.1,p.2.2.1]=some (s8,s9,aw,r++sv p):=by
 obtain⟨n,rfl⟩:∃n,k=n+3:=⟨k-3,by omega⟩;have e1:zP (r.length+1) 64=true:=xv (by omega);have e2:zP ((r++[fq p.2.1 p]).length+1) 64=true:=xv (by grind);have h1:pR (n+3) p.2.1 18 [p.1,p.2.1,p.2.2.1,p.2.2.2.1]=some (fq p.2.1 p):=rfl;have h2:pR (n+3) p.2.2.1 18 [p.1,p.2.1,p.2.2.1,p.2.2.2.1]=some (fq p.2.2.1 p):=rfl;have w0:zA (0+1)=1:=by decide
 have w1:zA (1+1)=2:=by decide
 show xx (n+3) (xw (n+3) (n+2)) s8 s9 aw 2 0 r p.1 p.2.1 p.2.2.1 p.2.2.2.1 p.2.2.2.2.1 p.2.2.2.2.2.1 p.2.2.2.2.2.2 [p.2.1,p.2.2.1]=_;unfold xx;have g0:[p.2.1,p.2.2.1].getD (Int.toNat 0) 0=p.2.1:=rfl;have b0:zB 0 [p.2.1,p.2.2.1].length=true:=rfl;have d0:decide ((0:Int)<2)=true:=rfl;simp[e1];show xx (n+3) (xw (n+3) (n+1)) s8 s9 aw 2 1 (r++[fq p.2.1 p]) p.1 p.2.1 p.2.2.1 p.2.2.2.1 p.2.2.2.2.1 p.2.2.2.2.2.1 p.2.2.2.2.2.2 [p.2.1,p.2.2.1]=_;unfold xx;have g1:[p.2.1,p.2.2.1].getD (Int.toNat 1) 0=p.2.2.1:=rfl;have b1:zB 1 [p.2.1,p.2.2.1].length=true:=rfl;have d1:decide ((1:Int)<2)=true:=rfl;simp only[aj,ae,e2];show xx (n+3) (xw (n+3) n) s8 s9 aw 2 2 (r++[fq p.2.1 p]++[fq p.2.2.1 p]) p.1 p.2.1 p.2.2.1 p.2.2.2.1 p.2.2.2.2.1 p.2.2.2.2.2.1 p.2.2.2.2.2.2 [p.2.1,p.2.2.1]=_;unfold xx;have d2:decide ((2:Int)<2)=false:=rfl;rw[d2,List.append_assoc];rfl
theorem VO {k}{l:List zH}(hk:l.length+3≤k)(hl:l.length≤400):Oy k l=some (yX l):=by
 unfold Oy;obtain ⟨s', h1, h2⟩ := vJ (L := fun n i (s : List qZ) => JZ k n l l.length i s) (N := l.length) (fun s => s) (fun i s => s = yX (l.take i)) (fun n s _=>by
  show FA k _ l l.length l.length s=_;unfold FA;simp) (fun n i s hi hs=>by
  refine⟨_,?_,(vAi l i hi).symm⟩;show FA k _ l l.length i s=_;unfold FA;have dW:s.length≤900:=by
   rw[hs,Bg,List.length_take];omega
  have h2:=vSb (k:=k) (by omega) l l.length i s dW (l.getD i pd);simp only[qB,qP,aq,aa hi,aj];rw[h2];simp[qE hi (by grind)];rw[hs]) (s:=[]) (show l.length<k by omega) rfl
 simp_all
theorem vGp {k}{l:List zH}(hk:l.length+5≤k)(hl:l.length≤400):Oz k l=some (yX l):=by
 unfold Oz;obtain ⟨s', h1, h2⟩ := vJ (L := fun n i (s : List qZ) => J0 k n l i s) (N := l.length) (fun s => s) (fun i s => s = yX (l.take i)) (fun n s _=>by
  show FB k _ l l.length s=_;unfold FB;simp) (fun n i s hi hs=>by
  refine⟨_,?_,(vAi l i hi).symm⟩;show FB k _ l i s=_;unfold FB;have dW:s.length≤900:=by
   rw[hs,Bg,List.length_take];omega
  obtain⟨j,rfl⟩:∃j,k=j+5:=⟨k-5,by omega⟩;have e2:zP (s.length+2) 64=true:=qJ (by omega) (by omega);simp[qB,aa hi,e2,qE hi (by grind)];rw[hs];rfl) (s:=[]) (show l.length<k by omega) rfl
 simp_all
def fI (q:zH)(o:qZ):Bool:=decide (o.2.2.1=q.1)&&(decide (o.1=q.2.1)&&(decide (o.2.1=21)||(decide (o.2.1=22)||decide (o.2.1=18))))
def kL (q:zH)(o:List qZ):Nat:=o.countP (fI q)
theorem Bh q a b:kL q (a++b)=kL q a+kL q b:=List.countP_append
theorem VP {f:zH→Bool}{q:zH}:∀{ps:List zH},qK ps→q∈ps→f q=true→(∀p∈ps,f p=true→p.1=q.1)→ps.countP f=1
 |[],_,h,_,_=>by cases h
 |p::ps,hd,hq,hf,hu=>by
  have hc:=List.pairwise_cons.1 hd;rw[List.countP_cons];rcases List.mem_cons.1 hq with rfl|hq
  ·rw[hf,if_pos rfl];have:ps.countP f=0:=by
    rw[List.countP_eq_zero];intro r hr Av;exact hc.1 r hr (hu r (List.mem_cons_of_mem _ hr) Av).symm
   omega
  ·have:f p=false:=by
    cases h:f p with
    |false=>rfl
    |true=>exact absurd (hu p (List.mem_cons_self ..) h) (hc.1 q hq)
   rw[this,VP hc.2 hq hf (fun r hr=>hu r (List.mem_cons_of_mem _ hr))];rfl
def wO (kd:Int)(p:zH):qZ:=(p.2.1,kd,p.1,0,0,0,0,0)
theorem FC {kd:Int}(hk:kd=21∨kd=22){q:zH}{ps:List zH}(hd:qK ps):(q∈ps→kL q (ps.map (wO kd))=1)∧((∀p∈ps,p.1≠q.1)→kL q (ps.map (wO kd))=0):=by
 unfold kL;rw[List.countP_map];constructor
 ·intro h;apply VP hd h
  ·show fI q (wO kd q)=true;unfold fI wO;rcases hk with rfl|rfl<;>simp
  ·intro p hp hf;have ek:fI q (wO kd p)=true:=hf;unfold fI wO at ek;rw[ba,aX] at ek;exact ek.1
 ·intro h;rw[List.countP_eq_zero];intro p hp hf;have ek:fI q (wO kd p)=true:=hf;unfold fI wO at ek;rw[ba,aX] at ek;exact h p hp ek.1
theorem yX4 q:∀d,kL q (yX d)=d.countP (fun p=>fI q (fq p.2.1 p))+d.countP (fun p=>fI q (fq p.2.2.1 p))
 |[]=>rfl
 |p::d=>by
  show kL q (sv p++yX d)=_;rw[Bh,yX4 q d,List.countP_cons,List.countP_cons];have e:kL q (sv p)=(if fI q (fq p.2.1 p)=true then 1 else 0)+(if fI q (fq p.2.2.1 p)=true then 1 else 0):=by
   unfold kL sv;grind
  omega
theorem OA {n:Nat}{q:zH}{d:List zH}(hd:qK d)(hm:∀p∈d,yH n p):(q∈d→kL q (yX d)=1)∧((∀p∈d,p.1≠q.1)→kL q (yX d)=0):=by
 have h2:∀(l:List zH),qK l→(∀p∈l,yH n p)→(q∈l∨∀p∈l,p.1≠q.1)→l.countP (fun p=>fI q (fq p.2.2.1 p))=0:=by
  intro l oL Fg hq;rw[List.countP_eq_zero];intro p hp hf;have ek:fI q (fq p.2.2.1 p)=true:=hf;unfold fI fq at ek;rw[ba,ba,aX,aX] at ek;rcases hq with hq|hq
  ·have:=oL.eq_of hp hq ek.1;subst this;exact(Fg p hp).ne ek.2.1.symm
  ·exact hq p hp ek.1
 rw[yX4];constructor
 ·intro h;rw[h2 d hd hm (.inl h),VP hd h]
  ·show fI q (fq q.2.1 q)=true;unfold fI fq;simp
  ·intro p hp hf;have ek:fI q (fq p.2.1 p)=true:=hf;unfold fI fq at ek;rw[ba,aX] at ek;exact ek.1
 ·intro h;rw[h2 d hd hm (.inr h)];have:d.countP (fun p=>fI q (fq p.2.1 p))=0:=by
   rw[List.countP_eq_zero];intro p hp hf;have ek:fI q (fq p.2.1 p)=true:=hf;unfold fI fq at ek;rw[ba,aX] at ek;exact h p hp ek.1
  omega
def xy (B:BT)(i:Nat):qZ:=((i:Int),23,(B.1.getD i ad).1,0,0,0,0,0)
def iJ (B:BT)(n:Nat):List qZ:=(List.range n).map (xy B)
theorem yUm q B n:kL q (iJ B n)=0:=by
 unfold kL iJ;rw[List.countP_map,List.countP_eq_zero];intro i _ hf;have ek:fI q (xy B i)=true:=hf;unfold fI xy at ek;simp at ek
theorem yU3 B i:iJ B (i+1)=iJ B i++[xy B i]:=by
 unfold iJ;rw[List.range_succ,List.map_append];rfl
theorem yUj {α β:Type}(f:α→β)(l:List α) i d (h:i<l.length):(l.take (i+1)).map f=(l.take i).map f++[f (l.getD i d)]:=by
 rw[←fH l i d h,List.map_append];rfl
theorem yUy {k B}(hB:B.1.length≤6)(hk:200≤k){m:List zH}(hm:m.length≤100) t pr ho ids to ov:
  OB k t B.1 B.2.1 B.2.2.1 B.2.2.2 pr ho m ids to ov=some (t,B.1,B.2.1,B.2.2.1,B.2.2.2,pr,ho,[],ids,to,true,m.map (wO 22)++iJ B B.1.length):=by
 unfold OB;obtain ⟨s', h1, h2⟩ := vJ (L := fun n i (s : List qZ) => FD k n m m.length i t B.1 B.2.1 B.2.2.1 B.2.2.2 pr ho m ids to ov 0 0 false s) (N := m.length) (fun s => (t, B.1, B.2.1, B.2.2.1, B.2.2.2, pr, ho, m, ids, to, ov, 0, 0, false, s)) (fun i s => s = (m.take i).map (wO 22)) (fun n s _=>by
  show FE k _ m m.length m.length t B.1 B.2.1 B.2.2.1 B.2.2.2 pr ho m ids to ov 0 0 false s=_;unfold FE;simp) (fun n i s hi hs=>by
  refine⟨_,?_,(yUj (wO 22) m i pd hi).symm⟩;show FE k _ m m.length i t B.1 B.2.1 B.2.2.1 B.2.2.2 pr ho m ids to ov 0 0 false s=_;unfold FE;have dW:s.length≤900:=by grind
  have FF:pR k (m.getD i pd).2.1 22 [(m.getD i pd).1]=some (wO 22 (m.getD i pd)):=rfl;simp only[qB,qP,aq,aa hi,aj,FF,ae,xv (show s.length≤1000 by omega),qE hi (by grind)];rw[hs]) (s:=[]) (show m.length<k by omega) rfl
 have ga:FD k k m m.length 0 t B.1 B.2.1 B.2.2.1 B.2.2.2 pr ho m ids to ov 0 0 false []=_:=h1;rw[ga,h2,List.take_length];obtain ⟨s2, g1, g2⟩ := vJ (L := fun n i (s : List qZ) => J1 k n B.1 B.1.length i t B.1 B.2.1 B.2.2.1 B.2.2.2 pr ho m ids to ov 0 0 false s) (N := B.1.length) (fun s => (t, B.1, B.2.1, B.2.2.1, B.2.2.2, pr, ho, m, ids, to, ov, 0, 0, false, s)) (fun i s => s = m.map (wO 22) ++ iJ B i) (fun n s _=>by
  show FG k _ B.1 B.1.length B.1.length t B.1 B.2.1 B.2.2.1 B.2.2.2 pr ho m ids to ov 0 0 false s=_;unfold FG;simp) (fun n i s hi hs=>by
  refine⟨_,?_,(show m.map (wO 22)++iJ B i++[xy B i]=m.map (wO 22)++iJ B (i+1) by rw[yU3,List.append_assoc])⟩;show FG k _ B.1 B.1.length i t B.1 B.2.1 B.2.2.1 B.2.2.2 pr ho m ids to ov 0 0 false s=_;unfold FG;have dW:s.length≤900:=by
   rw[hs,List.length_append,List.length_map];unfold iJ;grind
  have FF:pR k i 23 [(B.1.getD i ad).1]=some (xy B i):=rfl;have ho3:pR k i 23 [(B.1.getD i (0,0,0)).1]=some (xy B i):=FF;simp only[qB,qP,aq,aa hi,aj,ho3,ae,xv (show s.length≤1000 by omega),qE hi (by grind)];rw[hs]) (s:=m.map (wO 22)) (show B.1.length<k by omega) (by show _=_++[];simp)
 simp_all
def vE (t:Int)(p:zH):Bool:=decide (t>p.2.2.2.2.2.2)
theorem yGy {k:Nat}(hk:200≤k){m:List zH}(hm:m.length≤100)(pa:Int)(as:List (Int×Int))(cu cl pe t:Int)(B:BT)(pr:AC)(ho:EQ)(ids:AC)(to:Int)(ov:Bool):
  FH k k m m.length 0 pa as cu cl pe t B.1 B.2.1 B.2.2.1 B.2.2.2 pr ho m ids to ov 0 0 false [] []=some (pa,as,cu,cl,pe,t,B.1,B.2.1,B.2.2.1,B.2.2.2,pr,ho,m,ids,to,ov,0,0,false,(m.filter (vE t)).map (wO 21),m.filter (fun p=> !vE t p)):=by
 obtain ⟨s', h1, h2, h3⟩ := vJ (L := fun n i (s : List qZ × List zH) => FH k n m m.length i pa as cu cl pe t B.1 B.2.1 B.2.2.1 B.2.2.2 pr ho m ids to ov 0 0 false s.1 s.2) (N := m.length) (fun s => (pa, as, cu, cl, pe, t, B.1, B.2.1, B.2.2.1, B.2.2.2, pr, ho, m, ids, to, ov, 0, 0, false, s.1, s.2)) (fun i s => s.1 = ((m.take i).filter (vE t)).map (wO 21) ∧ s.2 = (m.take i).filter (fun p => !vE t p)) (fun n s _=>by
  show FI k _ m m.length m.length pa as cu cl pe t B.1 B.2.1 B.2.2.1 B.2.2.2 pr ho m ids to ov 0 0 false s.1 s.2=_;unfold FI;simp only [qP, ab (Nat.lt_irrefl _), ak]) (fun n i s hi hs=>by
  have tt:s.1.length≤900:=by
   rw[hs.1,List.length_map];have:=List.length_filter_le (vE t) (m.take i);rw[List.length_take] at this;omega
  have mE:s.2.length≤900:=by
   rw[hs.2];have:=List.length_filter_le (fun p=> !vE t p) (m.take i);rw[List.length_take] at this;omega
  show∃s',FI k _ m m.length i pa as cu cl pe t B.1 B.2.1 B.2.2.1 B.2.2.2 pr ho m ids to ov 0 0 false s.1 s.2=_∧_;unfold FI VQ;have FF:pR k (m.getD i pd).2.1 21 [(m.getD i pd).1]=some (wO 21 (m.getD i pd)):=rfl;simp only[pd] at FF;simp only[qB,qP,aq,aa hi,aj,FF,ae,xv (show s.1.length≤1000 by omega),nL (show s.2.length≤1000 by omega),qE hi (show m.length<9223372036854775808 by omega)];have f1:=A2 (vE t) m i pd hi;have f2:=A2 (fun p=> !vE t p) m i pd hi;cases hb:vE t (m.getD i pd) with
  |true=>
   have bF:decide (t>(m.getD i (0,0,0,0,0,0,0)).2.2.2.2.2.2)=true:=hb;rw[bF];refine⟨(s.1++[wO 21 (m.getD i pd)],s.2),rfl,?_,?_⟩
   ·show s.1++_=_;rw[f1,hb,hs.1];simp
   ·show s.2=_;rw[f2,hb,hs.2];simp
  |false=>
   have bF:decide (t>(m.getD i (0,0,0,0,0,0,0)).2.2.2.2.2.2)=false:=hb;rw[bF];refine⟨(s.1,s.2++[m.getD i pd]),rfl,?_,?_⟩
   ·show s.1=_;rw[f1,hb,hs.1];simp
   ·show s.2++_=_;rw[f2,hb,hs.2];simp) (s:=([],[])) (show m.length<k by omega) ⟨rfl,rfl⟩
 have:=h1.trans (by rw[h2,h3,List.take_length]);exact this
structure vDx (t cl:Int) (B C:BT) (m m':List zH) (ov:Bool) (o:List qZ):Prop where
 bk:qN C
 bl:C.1.length=B.1.length
 sub:List.Sublist m' m
 over:ov=decide (t+1=cl)
 none:ov=true→m'=[]
 late:ov=false→∀p∈m',vE (t+1) p=false
 Og:∀p∈m',kL p o=0
 im:∀p∈m,p∉m'→kL p o=1
 quiet:∀q:zH,(∀p∈m,p.1≠q.1)→kL q o=0
 room:o.length+2*m'.length≤2*m.length+(if ov=true then 6 else 0)
theorem qK.not_in {l m d:List zH}(hd:qK (d++m)){p}(hp:p∈m):∀q∈d,q.1≠p.1:=fun q hq=>(List.pairwise_append.1 hd).2.2 q hq p hp
end Go.Ab.Gi
