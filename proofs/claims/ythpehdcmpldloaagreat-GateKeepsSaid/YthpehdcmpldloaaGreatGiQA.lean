/- Plain proofs, part 0. -/
import Derived.Test.YthpehdcmpldloaaGreatGiAbC
import Derived.Test.YthpehdcmpldloaaGreatGiXS
set_option linter.unusedVariables false
set_option linter.unusedSimpArgs false
set_option maxRecDepth 100000
set_option linter.unusedSectionVars false
namespace Go.Ab
theorem aa {p:Prop}[Decidable p](h:p):decide p=true:=decide_eq_true h
theorem ab {p:Prop}[Decidable p](h:¬p):decide p=false:=decide_eq_false h
theorem IZ {p:Prop}[Decidable p](h:decide p=true):p:=of_decide_eq_true h
theorem gF {p:Prop}[Decidable p](h:decide p=false):¬p:=of_decide_eq_false h
theorem aX {p:Prop}[Decidable p]:(decide p=true)=p:=decide_eq_true_eq
theorem ae {α β:Type}(a:α)(f:α→Option β):(some a).bind f=f a:=rfl
theorem ak {α:Type}(a b:α):cond true a b=a:=rfl
theorem an {α:Type}(a b:α):cond false a b=b:=rfl
theorem au (n:Nat):(n:Int).toNat=n:=rfl
theorem bb (a b:Bool):((a&&b)=true)=(a=true∧b=true):=Bool.and_eq_true a b
theorem aB:(!true)=false:=rfl
theorem bZ:(!false)=true:=rfl
end Go.Ab
namespace Go.Ab
theorem zO {x:Int}(h1:-9223372036854775808≤x)(h2:x<9223372036854775808):zA x=x:=by
 unfold zA IntKind.wrap;simp only[IntKind.bits,IntKind.signed,Bool.true_and];by_cases h:x%2^64≥2^(64-1)
 ·rw[if_pos (by simpa using h)];omega
 ·rw[if_neg (by simpa using h)];omega
theorem vZt (x:Int):-9223372036854775808≤zA x:=by
 unfold zA IntKind.wrap;simp only[IntKind.bits,IntKind.signed,Bool.true_and];by_cases h:x%2^64≥2^(64-1)
 ·rw[if_pos (by simpa using h)];omega
 ·rw[if_neg (by simpa using h)];omega
theorem vXu (x:Int):zA x<9223372036854775808:=by
 unfold zA IntKind.wrap;simp only[IntKind.bits,IntKind.signed,Bool.true_and];by_cases h:x%2^64≥2^(64-1)
 ·rw[if_pos (by simpa using h)];omega
 ·rw[if_neg (by simpa using h)];omega
theorem qE {i N:Nat}(h:i<N)(hN:N<9223372036854775808):zA ((i:Int)+1)=((i+1:Nat):Int):=by
 rw[zO (by omega) (by omega)];rfl
theorem A2 {n}(h:(Lit.int .i64 n).wf=true):-9223372036854775808≤n∧n<9223372036854775808:=by
 simp[Lit.wf,IntKind.min,IntKind.bits] at h;grind
theorem qC (i n:Nat):zB (i:Int) n=decide (i<n):=by
 unfold zB;simp
theorem jS {i:Int}{n:Nat}(h0:0≤i)(h1:i<n):zB i n=true:=by
 unfold zB;simp;omega
theorem qK {n b}(h:n*b≤140737488355328)(h':n≤140737488355328):zQ n b=true:=by
 simp_all
theorem qR (i n:Nat):decide ((i:Int)<(n:Int))=decide (i<n):=by simp
theorem sC (i n:Nat):decide ((i:Int)=(n:Int))=decide (i=n):=by
 by_cases h:i=n
 ·subst h;simp
 ·rw[ab h,ab (by omega)]
def qG (p:Nat→Bool):Nat→Nat→Bool
 |0,_=>true
 |c+1,i=>p i&&qG p c (i+1)
theorem yYi {p:Nat→Bool}:∀{c i:Nat},qG p c i=true↔∀j,i≤j→j<i+c→p j=true
 |0,i=>by simp[qG];intro j h1 h2;omega
 |c+1,i=>by
  simp only[qG,bb,yYi (c:=c)];constructor
  ·rintro⟨h1,h2⟩ j h3 h4
   by_cases e:j=i
   ·subst e;exact h1
   ·exact h2 j (by omega) (by omega)
  ·intro h;exact⟨h i (Nat.le_refl i) (by omega),fun j h1 h2=>h j (by omega) (by omega)⟩
theorem gg {p c}:qG p c 0=true↔∀j,j<c→p j=true:=by
 rw[yYi];simp
theorem Ux {X:Type}{L:Nat→Int→Option X}{N:Nat} ok a b (bM:∀n,L (n+1) (N:Int)=some a)
  (aL:∀n i,i<N→L (n+1) (i:Int)=bif ok i then L n ((i+1:Nat):Int) else some b):∀c i n,i+c=N→c<n→L n (i:Int)=some (bif qG ok c i then a else b)
 |0,i,n,h,hn=>by
  obtain⟨n,rfl⟩:∃m,n=m+1:=⟨n-1,by omega⟩;have:i=N:=by omega
  subst this;exact bM n
 |c+1,i,n,h,hn=>by
  obtain⟨n,rfl⟩:∃m,n=m+1:=⟨n-1,by omega⟩;rw[aL n i (by omega)];unfold qG;cases ok i with
  |false=>rfl
  |true=>
   exact Ux ok a b bM aL c (i+1) n (by omega) (by omega)
theorem lu {X:Type}{L:Nat→Int→Option X}{N:Nat} ok a b (bM:∀n,L (n+1) (N:Int)=some a)
  (aL:∀n i,i<N→L (n+1) (i:Int)=bif ok i then L n ((i+1:Nat):Int) else some b) {n} (hn:N<n):L n 0=some (bif qG ok N 0 then a else b):=
 Ux ok a b bM aL N 0 n (by omega) hn
theorem yWp {L:Nat→Int→Option (Unit⊕Int)}{N:Nat}(bad:Nat→Bool)(bM:∀n,L (n+1) (N:Int)=some (.inl ()))
  (aL:∀n i,i<N→L (n+1) (i:Int)=bif bad i then some (.inr (i:Int)) else L n ((i+1:Nat):Int)):
  ∀c i n,i+c=N→c<n→(qG (fun j=> !bad j) c i=true∧L n (i:Int)=some (.inl ()))∨∃x:Nat,i≤x∧x<N∧bad x=true∧(∀j,i≤j→j<x→bad j=false)∧qG (fun j=> !bad j) c i=false∧L n (i:Int)=some (.inr (x:Int))
 |0,i,n,h,hn=>by
  obtain⟨n,rfl⟩:∃m,n=m+1:=⟨n-1,by omega⟩;have:i=N:=by omega
  subst this;exact .inl ⟨rfl,bM n⟩
 |c+1,i,n,h,hn=>by
  obtain⟨n,rfl⟩:∃m,n=m+1:=⟨n-1,by omega⟩;rw[aL n i (by omega)];unfold qG;cases hb:bad i with
  |true=>exact .inr ⟨i,Nat.le_refl i,by omega,hb,fun j h1 h2=>absurd h1 (by omega),rfl,rfl⟩
  |false=>
   simp only[an,bZ,Bool.true_and];rcases yWp bad bM aL c (i+1) n (by omega) (by omega) with h1|⟨x,x1,x2,x3,x4,x5,x6⟩
   ·exact .inl h1
   ·refine .inr ⟨x,by omega,x2,x3,fun j h1 h2=>?_,x5,x6⟩;by_cases e:j=i
    ·subst e;exact hb
    ·exact x4 j (by omega) h2
theorem xi {L:Nat→Int→Option (Unit⊕Int)}{N:Nat}(bad:Nat→Bool)(bM:∀n,L (n+1) (N:Int)=some (.inl ()))
  (aL:∀n i,i<N→L (n+1) (i:Int)=bif bad i then some (.inr (i:Int)) else L n ((i+1:Nat):Int)) {n:Nat} (hn:N<n):
  ∃x:Unit⊕Int,L n 0=some x∧decide ((match x with|.inl _=>(-1:Int)|.inr y=>y)≥0)= !qG (fun j=> !bad j) N 0:=by
 rcases yWp bad bM aL N 0 n (by omega) hn with⟨h1,h2⟩|⟨x,_,_,_,_,h5,h6⟩
 ·exact⟨_,h2,by rw[h1];rfl⟩
 ·exact⟨_,h6,by rw[h5];simp⟩
theorem ySu {S X:Type}{L:Nat→Int→S→Option X}{N}(e:S→X)(inv:Nat→S→Prop)(bM:∀n s,inv N s→L (n+1) (N:Int) s=some (e s))
  (aL:∀n i s,i<N→inv i s→∃s',L (n+1) (i:Int) s=L n ((i+1:Nat):Int) s'∧inv (i+1) s'):
  ∀c i n s,i+c=N→c<n→inv i s→∃s',L n (i:Int) s=some (e s')∧inv N s'
 |0,i,n,s,h,hn,hs=>by
  obtain⟨n,rfl⟩:∃m,n=m+1:=⟨n-1,by omega⟩;grind
 |c+1,i,n,s,h,hn,hs=>by
  obtain⟨n,rfl⟩:∃m,n=m+1:=⟨n-1,by omega⟩;obtain⟨s',h1,h2⟩:=aL n i s (by omega) hs;rw[h1];exact ySu e inv bM aL c (i+1) n s' (by omega) (by omega) h2
theorem vK {S X:Type}{L:Nat→Int→S→Option X}{N}(e:S→X)(inv:Nat→S→Prop)(bM:∀n s,inv N s→L (n+1) (N:Int) s=some (e s))
 (aL:∀n i s,i<N→inv i s→∃s',L (n+1) (i:Int) s=L n ((i+1:Nat):Int) s'∧inv (i+1) s') {n s} (hn:N<n) (hs:inv 0 s):
 ∃s',L n 0 s=some (e s')∧inv N s':=ySu e inv bM aL N 0 n s (by omega) hn hs
def zP {α:Type}(g:α→Int):List α→Int
 |[]=>0
 |p::l=>g p+zP g l
theorem ma {α} g:∀(l m:List α),zP g (l++m)=zP g l+zP g m
 |[],m=>by simp[zP]
 |p::l,m=>by
  show g p+zP g (l++m)=g p+zP g l+zP g m;rw[ma g l m];omega
theorem DI {α g A}:∀{l:List α},(∀p∈l,-A≤g p∧g p≤A)→-(l.length*A)≤zP g l∧zP g l≤l.length*A
 |[],_=>by simp[zP]
 |p::l,h=>by
  have h1:=h p (by simp);have h2:=DI (l:=l) fun q hq=>h q (by grind)
  have e:((p::l).length:Int)*A=(l.length:Int)*A+A:=by
   rw[List.length_cons,Int.natCast_add,Int.add_mul];simp
  show-_≤g p+zP g l∧g p+zP g l≤_;omega
theorem xj {α g}:∀{l:List α},(∀p∈l,0≤g p)→0≤zP g l
 |[],_=>by simp[zP]
 |p::l,h=>by
  have h1:=h p (by simp);have h2:=xj (l:=l) fun q hq=>h q (by grind)
  show 0≤g p+zP g l;omega
theorem vCc {α} g h:∀(l:List α),zP (fun p=>g p+h p) l=zP g l+zP h l
 |[]=>rfl
 |p::l=>by
  show g p+h p+zP _ l=g p+zP g l+(h p+zP h l);rw[vCc g h l];omega
theorem Uy {α} g h:∀(l:List α),zP (fun p=>g p-h p) l=zP g l-zP h l
 |[]=>rfl
 |p::l=>by
  show g p-h p+zP _ l=g p+zP g l-(h p+zP h l);rw[Uy g h l];omega
theorem Ny {α g h}:∀{l:List α},(∀p∈l,g p=h p)→zP g l=zP h l
 |[],_=>rfl
 |p::l,e=>by
  show g p+zP g l=h p+zP h l;rw[e p (by simp),Ny fun q hq=>e q (by grind)]
def qH (g:Nat→Int):Nat→Int
 |0=>0
 |n+1=>qH g n+g n
theorem DJ g h:∀n,qH (fun j=>g j+h j) n=qH g n+qH h n
 |0=>rfl
 |n+1=>by
  show qH _ n+(g n+h n)=qH g n+g n+(qH h n+h n);rw[DJ g h n];omega
theorem sD {g h}:∀{n},(∀j,j<n→g j=h j)→qH g n=qH h n
 |0,_=>rfl
 |n+1,e=>by
  show qH g n+g n=qH h n+h n;rw[sD fun j hj=>e j (by omega),e n (by simp)]
theorem A3 (c:Int)(t:Nat):∀n,qH (fun j=>if j=t then c else 0) n=if t<n then c else 0
 |0=>rfl
 |n+1=>by
  show qH _ n+(if n=t then c else 0)=_;rw[A3 c t n];by_cases h:t<n
  ·rw[if_pos h,if_neg (by omega),if_pos (by omega)];omega
  ·by_cases h':n=t
   ·rw[if_neg h,if_pos h',if_pos (by omega)];omega
   ·rw[if_neg h,if_neg h',if_neg (by omega)];omega
theorem Uz:∀n,qH (fun _=>0) n=0
 |0=>rfl
 |n+1=>by show qH _ n+0=0;rw[Uz n];rfl
theorem xk {g A}(h:∀j,-A≤g j∧g j≤A):∀n:Nat,-(n*A)≤qH g n∧qH g n≤n*A
 |0=>by simp[qH]
 |n+1=>by
  have h1:=h n;have h2:=xk h n;have e:((n+1:Nat):Int)*A=(n:Int)*A+A:=by
   grind
  show-_≤qH g n+g n∧qH g n+g n≤_;omega
theorem Nz {α}(g:Nat→α→Int) n:∀l:List α,qH (fun j=>zP (g j) l) n=zP (fun p=>qH (fun j=>g j p) n) l
 |[]=>Uz n
 |p::l=>by
  show qH (fun j=>g j p+zP (g j) l) n=qH (fun j=>g j p) n+zP _ l;rw[DJ,Nz g n l]
theorem gh {α:Type}{l:List α}{i d}(h:i<l.length):l.getD i d∈l:=by
 simp_all
theorem fG {α:Type}(l:List α) i d (h:i<l.length):l.take i++[l.getD i d]=l.take (i+1):=by
 simp_all
theorem fm {α:Type}(l:List α)(i j:Nat)(a d:α):(l.set i a).getD j d=if i=j∧i<l.length then a else l.getD j d:=by
 rw[List.getD_eq_getElem?_getD,List.getD_eq_getElem?_getD,List.getElem?_set];by_cases h:i=j
 ·subst h;by_cases h':i<l.length<;>simp[h']
 ·simp[h]
theorem DK {α:Type}{l m:List α} d (hl:l.length=m.length)(h:∀i,i<l.length→l.getD i d=m.getD i d):l=m:=by
 apply List.ext_getElem hl;simp_all
theorem UA m (hm:m≤62) x:yL .i64 x (2^m-1)=x%2^m:=by
 unfold yL tw;have hp:(2:Int)^m=((2^m:Nat):Int):=by rfl
 have hle:2^m≤2^62:=Nat.pow_le_pow_right (by omega) hm;have lN:0<2^m:=by grind
 have e1:(BitVec.ofInt IntKind.i64.bits x&&&BitVec.ofInt IntKind.i64.bits (2^m-1)).toNat=(x%2^m).toNat:=by
  rw[BitVec.toNat_and,BitVec.toNat_ofInt,BitVec.toNat_ofInt];have e2:((2:Int)^m-1)%((2^IntKind.i64.bits:Nat):Int)=((2^m-1:Nat):Int):=by
   rw[hp];have:((2^m:Nat):Int)-1=((2^m-1:Nat):Int):=by omega
   rw[this];apply Int.emod_eq_of_lt (by omega);show((2^m-1:Nat):Int)<((2^64:Nat):Int);omega
  rw[e2,au,Nat.and_two_pow_sub_one_eq_mod];have hx:0≤x%((2^IntKind.i64.bits:Nat):Int):=by omega
  have e3:x%2^m=(x%((2^IntKind.i64.bits:Nat):Int))%((2^m:Nat):Int):=by
   rw[hp,Int.emod_emod_of_dvd];show((2^m:Nat):Int)∣((2^64:Nat):Int);exact Int.natCast_dvd_natCast.2 (Nat.pow_dvd_pow 2 (by omega))
  grind
 rw[e1];have h0:0≤x%2^m:=by omega
 rw[Int.toNat_of_nonneg h0];exact zO (by omega) (by omega)
end Go.Ab
namespace Go.Ab.Gi
open Go.Ab
def sE (s c:Int):Int:=wN .u64 (shl .u64 s 8) (IntKind.wrap .u64 c)
def DL (b:AC):Int:=zA (b.foldl sE 0)
def xl:Nat→AC→AC
 |0,_=>[]
 |m+1,b=>DL (b.take 8)::xl m (b.drop 8)
theorem vYr {x:AC}{i}(h:i<x.length) s:(x.take (i+1)).foldl sE s=sE ((x.take i).foldl sE s) (x.getD i 0):=by
 rw[←fG x i 0 h,List.foldl_append];rfl
theorem vL7 {k}(hk:9≤k) s0 x r0 (hx:x.length=8):DM k k s0 0 x 8 0 r0=some (s0,x.foldl sE 0,r0):=by
 obtain ⟨s, h1, h2⟩ := vK (L := fun n i (s : Int) => DM k n s0 s x 8 i r0) (N := 8) (fun s => (s0, s, r0)) (fun i s => s = (x.take i).foldl sE 0) (fun n s _ => rfl) (fun n i s hi hs=>by
  refine⟨sE s (x.getD i 0),?_,by rw[vYr (by omega),hs]⟩;show NA k (DM k n) s0 s x 8 (i:Int) r0=_;unfold NA;rw[aa (by grind),ak,jS (by omega) (by omega),ak,qE (N:=8) hi (by omega),au];rfl) (n:=k) (s:=0) (by omega) rfl
 grind
theorem yN7 {k}(hk:9≤k):∀m n b r,b.length=8*m→m<n→r.length+m≤17592186044416→DN k n b r=some (r++xl m b)
 |0,n,b,r,hb,hn,_=>by
  obtain⟨n,rfl⟩:∃x,n=x+1:=⟨n-1,by omega⟩;show DO k (DN k n) b r=_;unfold DO;rw[ab (by omega),an];simp[xl]
 |m+1,n,b,r,hb,hn,hr=>by
  obtain⟨n,rfl⟩:∃x,n=x+1:=⟨n-1,by omega⟩;show DO k (DN k n) b r=_;unfold DO;have ht:(b.take 8).length=8:=by grind
  have e8:((b.take 8).length:Int)=8:=by omega
  rw[aa (by grind),ak,aa (by grind),ak,e8,vL7 hk _ _ _ ht,ae];dsimp only;rw[qK (by omega) (by omega),ak,aa (by grind),ak];rw[yN7 hk m n _ _ (by grind) (by omega) (by grind)];rw[List.append_assoc];rfl
theorem vPw (n:Nat):Int.tmod (n:Int) 8=((n%8:Nat):Int):=rfl
def ie (b:AC):AC×Int:=if b.length%8=0 then(xl (b.length/8) b,0) else([],2)
theorem yRy {k:Nat}{b:AC}(hk:9≤k)(hb:b.length<8*k)(bH:b.length≤140737488355328):sF k b=some (ie b):=by
 unfold sF ie;rw[vPw];by_cases h:b.length%8=0
 ·rw[if_pos h,aa (by omega),yN7 hk (b.length/8) k b [] (by omega) (by omega) (by simp;omega)];rfl
 ·rw[if_neg h,ab (by omega)];rfl
def yVf:AC:=[(-1),6,1,2,2,2,1,1,2,0,2,2,2,0,0,0,1,5,4,1,1,1,1,1]
def yD (x:Int):Int:=if 0≤x∧x<24 then yVf.getD x.toNat 0 else-1
theorem UB (k:Nat)(x:Int):DP k x=some (yD x):=by
 unfold DP yD;by_cases h:x<0
 ·rw[aa h,if_neg (by omega)];rfl
 ·rw[ab h,an];by_cases h2:x≥24
  ·rw[aa h2,if_neg (by omega)];rfl
  ·rw[ab h2,an,jS (by omega) (by omega),ak,if_pos (by omega)];rfl
theorem I1 (k:Nat)(x:Int):uo k x=some (yD x):=by
 by_cases h:0≤x∧x<24
 ·obtain⟨n,rfl⟩:∃n:Nat,x=n:=⟨x.toNat,by omega⟩;have hn:n<24:=by omega
  have:∀n:Nat,n<24→uo 0 (n:Int)=some (yD (n:Int)):=by decide
  exact this n hn
 ·have e:yD x= -1:=by unfold yD;rw[if_neg h]
  rw[e];unfold uo;have ne:∀c:Int,0≤c→c<24→decide (x=c)=false:=fun c h1 h2=>ab (by omega)
  rw[ne 9 (by omega) (by omega),ne 13 (by omega) (by omega),ne 14 (by omega) (by omega),ne 15 (by omega) (by omega),ne 2 (by omega) (by omega),ne 6 (by omega) (by omega),ne 7 (by omega) (by omega),ne 16 (by omega) (by omega),
   ne 19 (by omega) (by omega),ne 20 (by omega) (by omega),ne 21 (by omega) (by omega),ne 22 (by omega) (by omega),ne 23 (by omega) (by omega),ne 3 (by omega) (by omega),ne 4 (by omega) (by omega),ne 5 (by omega) (by omega),ne 8 (by omega) (by omega),
   ne 10 (by omega) (by omega),ne 11 (by omega) (by omega),ne 12 (by omega) (by omega),ne 18 (by omega) (by omega),ne 17 (by omega) (by omega),ne 1 (by omega) (by omega)]
  rfl
def lv (b:AC):zC×Int:=
 if b=[] then((0,0,0,0,0,0,0),2)
 else if(ie (b.drop 1)).2≠0∨((ie (b.drop 1)).1.length:Int)≠yD (zA (b.getD 0 0)) then((0,0,0,0,0,0,0),2)
 else((zA (b.getD 0 0),(ie (b.drop 1)).1.getD 0 0,(ie (b.drop 1)).1.getD 1 0,(ie (b.drop 1)).1.getD 2 0,(ie (b.drop 1)).1.getD 3 0,(ie (b.drop 1)).1.getD 4 0,(ie (b.drop 1)).1.getD 5 0),0)
theorem vG3 (l:AC)(i:Nat):(bif Nat.blt i l.length then l.getD i 0 else 0)=l.getD i 0:=by
 by_cases h:i<l.length
 ·rw[show Nat.blt i l.length=true by simp[Nat.blt_eq,h]];rfl
 ·rw[show Nat.blt i l.length=false by
   cases e:Nat.blt i l.length with
   |false=>rfl
   |true=>rw[Nat.blt_eq] at e;omega]
  rw[List.getD_eq_getElem?_getD,List.getElem?_eq_none (by omega)];rfl
theorem yYb {k:Nat}{b:AC}(hk:9≤k)(hb:b.length≤8*k)(bH:b.length≤140737488355328):A4 k b=some (lv b):=by
 unfold A4 lv;cases b with
 |nil=>rfl
 |cons c l=>
  rw[if_neg (by simp)];have e0:((c::l).length:Int)=(l.length:Int)+1:=by simp
  rw[ab (by omega),an,aa (show(1:Int)≤((c::l).length:Int) by omega),ak,yRy hk (by simp at hb⊢;omega) (by simp at bH⊢;omega),ae];by_cases h:(ie (List.drop 1 (c::l))).2=0
  ·rw[aa h,jS (by omega) (by simp),I1];simp only[aB,an,ak,ae];by_cases h2:((ie (List.drop 1 (c::l))).1.length:Int)=yD (zA ((c::l).getD 0 0))
   ·rw[aa h2,if_neg (fun hh=>hh.elim (fun e=>e h) fun e=>e h2)];simp only[aB,an,vG3]
   ·rw[ab h2,if_pos (.inr h2)];rfl
  ·rw[ab h,if_pos (.inl h)];rfl
theorem A5 (x:Int):yD x≤6:=by
 unfold yD;split
 ·rename_i h;obtain⟨n,rfl⟩:∃n:Nat,x=n:=⟨x.toNat,by omega⟩;have:∀n:Nat,n<24→yVf.getD n 0≤6:=by decide
  exact this n (by omega)
 ·omega
abbrev A6:Type:=Int×Int×AC×Int×Int
abbrev abw:Type:=Int×List (Int×Int)×Int×Int×Int
abbrev NC:Type:=Int×List (Int×Int×Int)×EQ×AC×EQ×AC×EQ×List (Int×Int×Int×Int×Int×Int×Int)×AC×Int×Bool
abbrev sG:Type:=Int×List (Int×Int)×Int×Int×Int×Int×List (Int×Int×Int)×EQ×AC×EQ×AC×EQ×List (Int×Int×Int×Int×Int×Int×Int)×AC×Int×Bool×Int×Bool
abbrev abx:Type:=Int×Int×Bool×Bool
def d0:A6:=(0,0,[],0,0)
abbrev dkW (ro:Int)(x:AC)(sx:Int)(y:AC)(sy cA cK op:Int):wE:=(ro,x,sx,y,sy,cA,cK,false,false,op)
def vE (n:Int)(i:Nat):Int:=IntKind.wrap .u8 (shr .i64 n (8*(i:Int)))
def yC (n:Int):AC:=[vE n 7,vE n 6,vE n 5,vE n 4,vE n 3,vE n 2,vE n 1,vE n 0]
def yF (l:AC):AC:=l.flatMap yC
theorem mS:∀l,(yF l).length=8*l.length
 |[]=>rfl
 |n::l=>by
  have:=mS l;simp[yF] at this⊢;rw[this];simp[yC];omega
theorem vVl {k n} v (i:Nat)(hi:i≤7) aR dh bA r (hr:r.length≤1000000000):
  xm k (n+1) v (i:Int) aR dh bA r=xm k n v ((i:Int)-1) aR dh bA (r++[vE v i]):=by
 show ND k (xm k n) v (i:Int) aR dh bA r=_;unfold ND;have e8:zA (8*(i:Int))=8*(i:Int):=zO (by omega) (by omega);rw[aa (by simp),ak,e8,ab (by omega),bZ,ak,qK (by omega) (by omega),ak,zO (by omega) (by omega)];rfl
theorem UC {k}(hk:9≤k) v aR dh bA r (hr:r.length≤100000000):
  xm k k v 7 aR dh bA r=some (aR,dh,bA,r++yC v):=by
 have gen:∀m,xm k (m+9) v 7 aR dh bA r=some (aR,dh,bA,r++yC v):=fun m=>by
  have h:=fun n i hi r' rS=>vVl (k:=k) (n:=n) v i hi aR dh bA r' rS
  have h7:=h (m+8) 7 (by omega) r (by omega);have h6:=h (m+7) 6 (by omega) (r++[vE v 7]) (by grind);have h5:=h (m+6) 5 (by omega) ((r++[vE v 7])++[vE v 6]) (by grind);have h4:=h (m+5) 4 (by omega) (((r++[vE v 7])++[vE v 6])++[vE v 5]) (by grind);have h3:=h (m+4) 3 (by omega) ((((r++[vE v 7])++[vE v 6])++[vE v 5])++[vE v 4]) (by grind);have h2:=h (m+3) 2 (by omega) (((((r++[vE v 7])++[vE v 6])++[vE v 5])++[vE v 4])++[vE v 3]) (by grind);have h1:=h (m+2) 1 (by omega) ((((((r++[vE v 7])++[vE v 6])++[vE v 5])++[vE v 4])++[vE v 3])++[vE v 2]) (by simp;omega);have h0:=h (m+1) 0 (by omega) (((((((r++[vE v 7])++[vE v 6])++[vE v 5])++[vE v 4])++[vE v 3])++[vE v 2])++[vE v 1]) (by simp;omega);refine(h7.trans (h6.trans (h5.trans (h4.trans (h3.trans (h2.trans (h1.trans (h0.trans ?_))))))));show some (aR,dh,bA,_)=_;simp only[List.append_assoc,List.cons_append,List.nil_append];rfl
 obtain⟨m,rfl⟩:∃m,k=m+9:=⟨k-9,by omega⟩;exact gen m
theorem yGb {k}(hk:9≤k) l (hl:l.length≤1000000):∀(m n i:Nat),i+m=l.length→m<n→A7 k n l (l.length:Int) (i:Int) (yF (l.take i))=some (yF l)
 |0,n,i,hi,hn=>by
  obtain⟨n,rfl⟩:∃x,n=x+1:=⟨n-1,by omega⟩;show DR k (A7 k n) l _ _ _=_;unfold DR;simp_all
 |m+1,n,i,hi,hn=>by
  obtain⟨n,rfl⟩:∃x,n=x+1:=⟨n-1,by omega⟩;show DR k (A7 k n) l _ _ _=_;unfold DR;have bj:i<l.length:=by omega
  rw[aa (by grind),ak,jS (by omega) (by omega),ak,au,
   UC hk _ _ _ _ _ (by rw[mS,List.length_take];omega),ae,qE (N:=l.length) bj (by omega)]
  rw[show yF (l.take i)++yC (l.getD i 0)=yF (l.take (i+1)) by
   rw[←fG l i 0 bj];simp[yF]]
  exact yGb hk l hl m n (i+1) (by omega) (by omega)
theorem I2 {k}(hk:9≤k) l (hl:l.length≤1000000)(tJ:l.length<k):xn k l=some (yF l):=by
 unfold xn;have h8:zA (8*(l.length:Int))=((8*l.length:Nat):Int):=by rw[zO (by omega) (by omega)];omega
 rw[h8];have hm:sj 0 ((8*l.length:Nat):Int) 1=true:=by
  grind
 rw[hm,ak];have:=yGb hk l hl l.length k 0 (by omega) tJ;show(A7 k k l (l.length:Int) ((0:Nat):Int) (yF (l.take 0))).bind _=_;simp_all
def wH (l:AC):AC:=yC (l.length:Int)++yF l
theorem vEu {k}(hk:9≤k) l (hl:l.length≤1000000)(tJ:l.length<k):NF k l=some (wH l):=by
 unfold NF;rw[I2 hk [(l.length:Int)] (by simp) (by grind),ae,I2 hk l hl tJ,ae];rw[qK (by rw[mS,mS];grind) (by rw[mS,mS];grind)];rfl
def wD (b:AC):AC:=[IntKind.wrap .u8 (shr .i64 (b.length:Int) 8),IntKind.wrap .u8 (b.length:Int)]++b
theorem yP9 k b:I3 k b=some (if b.length≤60000 then(wD b,true) else([],false)):=by
 unfold I3;by_cases h:b.length≤60000
 ·rw[ab (by omega),an,qK (by omega) (by omega),if_pos h];rfl
 grind
theorem yAv (x:Nat)(hx:x<18446744073709551616):(BitVec.ofInt 64 (x:Int)).toNat=x:=by
 rw[BitVec.ofInt_natCast,BitVec.toNat_ofNat];exact Nat.mod_eq_of_lt hx
theorem yHc (a c:Nat)(hc:c<256)(ha:a*256+c<18446744073709551616):(BitVec.ofInt 64 ((a*256:Nat):Int)|||BitVec.ofInt 64 (c:Int)).toNat=a*256+c:=by
 rw[BitVec.toNat_or,yAv _ (by omega),yAv _ (by omega)];have:=Nat.two_pow_add_eq_or_of_lt (b:=c) (i:=8) hc a;rw[show(2:Nat)^8*a=a*256 by omega] at this;exact this.symm
theorem I4 (x:Int):IntKind.wrap .u8 x=x%256:=by
 unfold IntKind.wrap;simp[IntKind.bits,IntKind.signed]
theorem DS (x:Int):IntKind.wrap .u64 x=x%18446744073709551616:=by
 unfold IntKind.wrap;simp[IntKind.bits,IntKind.signed]
theorem vHo {s c:Int}(hs:0≤s)(hc:0≤c∧c<256):sE s c=(s*256+c)%18446744073709551616:=by
 unfold sE;have e1:shl .u64 s 8=(s*256)%18446744073709551616:=DS _;rw[e1,DS c];obtain⟨a,ha⟩:∃a:Nat,s%72057594037927936=a:=⟨(s%72057594037927936).toNat,by omega⟩;obtain⟨d,rfl⟩:∃d:Nat,c=d:=⟨c.toNat,by omega⟩;have e2:(s*256)%18446744073709551616=((a*256:Nat):Int):=by omega
 have e3:(d:Int)%18446744073709551616=(d:Int):=by omega
 rw[e2,e3];show IntKind.wrap .u64 (((BitVec.ofInt 64 ((a*256:Nat):Int)|||BitVec.ofInt 64 (d:Int)).toNat:Nat):Int)=_;rw[yHc a d (by omega) (by omega),DS];omega
theorem yC7 (n:Int)(i:Nat)(hi:i≤7):vE n i=(n/2^(8*i))%256:=by
 unfold vE;rw[I4]
 congr 1
 show n.fdiv (2^(min (8*(i:Int)).toNat 64))=_;rw[show min (8*(i:Int)).toNat 64=8*i by omega];exact Int.fdiv_eq_ediv_of_nonneg _ (Int.le_of_lt (Int.pow_pos (by decide)))
theorem vYd {n:Int}(h1:-9223372036854775808≤n)(h2:n<9223372036854775808):DL (yC n)=n:=by
 have o:=fun i (hi:i≤7)=>yC7 n i hi
 have b:∀i,i≤7→0≤vE n i∧vE n i<256:=fun i hi=>by rw[o i hi];omega
 have p:∀s:Int,0≤s→∀i,i≤7→sE s (vE n i)=(s*256+vE n i)%18446744073709551616:=fun s hs i hi=>vHo hs (b i hi)
 unfold DL yC;simp only[List.foldl_cons,List.foldl_nil];rw[p 0 (by omega) 7 (by omega),p _ (by omega) 6 (by omega),p _ (by omega) 5 (by omega),p _ (by omega) 4 (by omega),p _ (by omega) 3 (by omega),p _ (by omega) 2 (by omega),p _ (by omega) 1 (by omega),p _ (by omega) 0 (by omega)];rw[o 7 (by omega),o 6 (by omega),o 5 (by omega),o 4 (by omega),o 3 (by omega),o 2 (by omega),o 1 (by omega),o 0 (by omega)];simp only[Nat.reduceMul,Int.reducePow];unfold zA IntKind.wrap;simp only[IntKind.bits,IntKind.signed,Bool.true_and];simp;split<;>omega
def yA (l:EQ):AC:=l.flatMap wH
theorem mT l:(wH l).length=8*(l.length+1):=by
 simp[wH,mS];show 8+_=_;omega
theorem vD9 {l:EQ}{i}(h:i<l.length):yA (l.take i)++wH (l.getD i [])=yA (l.take (i+1)):=by
 rw[←fG l i [] h];simp[yA]
structure eL (l:EQ):Prop where
 n:l.length≤900
 r:∀x∈l,x.length≤900
theorem vDf {l}(h:∀x∈l,x.length≤900):(yA l).length≤8000*l.length:=by
 induction l with
 |nil=>simp[yA]
 |cons x l ih=>
  have h1:=ih (by grind);have h2:=h x (by simp);simp[yA,mT] at h1⊢;omega
theorem vXq {k}(hk:1000≤k){l}(h:eL l):I5 k l=some (yA l):=by
 have hn:=h.n;unfold I5;obtain ⟨s, h1, h2⟩ := vK (L := fun n i (s : AC) => DT k n l (l.length : Int) i s) (N := l.length) (fun s => s) (fun i s => s = yA (l.take i)) (fun n s _=>by
  show DU k (DT k n) l _ _ s=_;unfold DU;simp) (fun n i s hi hs=>by
  refine⟨s++wH (l.getD i []),?_,by rw[hs,vD9 hi]⟩;show DU k (DT k n) l _ (i:Int) s=_;unfold DU;have hr:=h.r _ (gh (d:=[]) hi);have oK:s.length≤8000*1000:=by
   have:=vDf (l:=l.take i) fun x hx=>h.r x (by grind)
   grind
  rw[aa (by grind),ak,jS (by omega) (by omega),ak,au,vEu (by omega) _ (by omega) (by omega),ae,
   qK (by rw[mT];omega) (by rw[mT];omega),ak,qE (N:=l.length) hi (by omega)]) (n:=k) (s:=[]) (by omega) rfl
 simp_all
def j4 (a:Int×Int×Int):AC:=[a.1,a.2.1,a.2.2]
def gi (p:Int×Int×Int×Int×Int×Int×Int):AC:=[p.1,p.2.1,p.2.2.1,p.2.2.2.1,p.2.2.2.2.1,p.2.2.2.2.2.1,p.2.2.2.2.2.2]
def gj (s:NC):EQ:=
 (((((([[s.1,s.2.2.2.2.2.2.2.2.2.1,bif s.2.2.2.2.2.2.2.2.2.2 then 1 else 0,(s.2.1.length:Int),(s.2.2.1.length:Int),(s.2.2.2.1.length:Int),(s.2.2.2.2.1.length:Int),(s.2.2.2.2.2.2.1.length:Int),(s.2.2.2.2.2.2.2.1.length:Int)]]++
  s.2.1.map j4)++s.2.2.1)++[s.2.2.2.1])++s.2.2.2.2.1)++[s.2.2.2.2.2.1])++s.2.2.2.2.2.2.1)++s.2.2.2.2.2.2.2.1.map gi++[s.2.2.2.2.2.2.2.2.1]
theorem yT4 {α β:Type}(f:α→β) d {l:List α}{i}(h:i<l.length):(l.take i).map f++[f (l.getD i d)]=(l.take (i+1)).map f:=by
 rw[←fG l i d h];simp
theorem UD {k}{l:List (Int×Int×Int)}(hl:l.length≤900)(hk:1000≤k)(s:NC)(b) r (hr:r.length≤1000000):A8 k k l (l.length:Int) 0 s b r=some (s,b,r++l.map j4):=by
 obtain ⟨t, h1, h2⟩ := vK (L := fun n i (t : EQ) => A8 k n l (l.length : Int) i s b t) (N := l.length) (fun t => (s, b, t)) (fun i t => t = r ++ (l.take i).map j4) (fun n t _=>by
  show DV k (A8 k n) l _ _ s b t=_;unfold DV;simp) (fun n i t hi ht=>by
  refine⟨t++[j4 (l.getD i (0,0,0))],?_,by rw[ht,List.append_assoc,yT4 j4 (0,0,0) hi]⟩;show DV k (A8 k n) l _ (i:Int) s b t=_;unfold DV;have:t.length≤1001000:=by grind
  rw[aa (by grind),ak,jS (by omega) (by omega),ak,qK (by omega) (by omega),ak,qE (N:=l.length) hi (by omega)];rfl) (n:=k) (s:=r) (by omega) (by simp)
 simp_all
theorem vGp {k}{l:List (Int×Int×Int×Int×Int×Int×Int)}(hl:l.length≤900)(hk:1000≤k)(s:NC) r (hr:r.length≤1000000):A9 k k l (l.length:Int) 0 s r=some (s,r++l.map gi):=by
 obtain ⟨t, h1, h2⟩ := vK (L := fun n i (t : EQ) => A9 k n l (l.length : Int) i s t) (N := l.length) (fun t => (s, t)) (fun i t => t = r ++ (l.take i).map gi) (fun n t _=>by
  show DW k (A9 k n) l _ _ s t=_;unfold DW;simp) (fun n i t hi ht=>by
  refine⟨t++[gi (l.getD i (0,0,0,0,0,0,0))],?_,by rw[ht,List.append_assoc,yT4 gi (0,0,0,0,0,0,0) hi]⟩;show DW k (A9 k n) l _ (i:Int) s t=_;unfold DW;have:t.length≤1001000:=by grind
  rw[aa (by grind),ak,jS (by omega) (by omega),ak,qK (by omega) (by omega),ak,qE (N:=l.length) hi (by omega)];rfl) (n:=k) (s:=r) (by omega) (by simp)
 simp_all
theorem yI4 {k}(hk:1000≤k){s}(h:eL (gj s)):mb k s=some (yA (gj s)):=by
 have hn:=h.n;simp only[gj,List.length_append,List.length_map] at hn;unfold mb;rw[show NG k s.2.2.2.2.2.2.2.2.2.2=some (bif s.2.2.2.2.2.2.2.2.2.2 then 1 else 0) by unfold NG;grind,ae];rw[UD (by omega) hk _ _ _ (by simp),ae];dsimp only;rw[qK (by grind) (by grind),ak,qK (by grind) (by grind),ak,qK (by simp;omega) (by grind),ak,qK (by simp;omega) (by simp;omega),ak,
  qK (by simp;omega) (by simp;omega),ak,vGp (by omega) hk _ _ (by simp;omega),ae]
 dsimp only;rw[qK (by simp;omega) (by simp;omega),ak];show(I5 k (gj s)).bind (fun x1=>some x1)=_;rw[vXq hk h];rfl
structure UE (D:wE):Prop where
 abj:D.2.2.2.2.2.2.2.1=false
 down:D.2.2.2.2.2.2.2.2.1=false
 room:0≤D.1∧D.1≤200000
 x:(D.2.1.length:Int)≤D.1
 y:(D.2.2.2.1.length:Int)≤D.1
def vI (D:wE)(i:Int):AC:=if i=0 then D.2.1 else D.2.2.2.1
theorem UE.as {D}(h:UE D):∃ro x sx y sy cA cK op,D=dkW ro x sx y sy cA cK op∧0≤ro∧ro≤200000∧(x.length:Int)≤ro∧(y.length:Int)≤ro:=by
 obtain⟨ro,x,sx,y,sy,cA,cK,ar,dn,op⟩:=D;obtain⟨h1,h2,h3,h4,h5⟩:=h;subst h1;subst h2;grind
structure aby (L:gv):Prop where
 side:L.1=0∨L.1=1
 gen:1≤L.2.1∧L.2.1≤4611686018427387904
 rows:0≤L.2.2.1∧L.2.2.1≤1000000
 stale:L.2.2.2=false
theorem uq b:(wD b).length=b.length+2:=by rfl
def iH (l:AC):Prop:=∀x∈l,-9223372036854775808≤x∧x<9223372036854775808
theorem yI7:∀{l},iH l→xl l.length (yF l)=l
 |[],_=>rfl
 |n::l,h=>by
  have h1:=h n (by simp);have e:yF (n::l)=yC n++yF l:=by rfl
  show DL ((yC n++yF l).take 8)::xl l.length ((yC n++yF l).drop 8)=_;have t:(yC n++yF l).take 8=yC n:=rfl;have d:(yC n++yF l).drop 8=yF l:=rfl;rw[t,d,vYd h1.1 h1.2,yI7 fun x hx=>h x (by grind)]
theorem UF {l}(h:iH l):ie (yF l)=(l,0):=by
 unfold ie;have:=mS l;rw[if_pos (by omega),show(yF l).length/8=l.length by omega,yI7 h]
theorem yMe {k}(hk:9≤k){l}(hl:l.length<k)(hm:l.length≤1000000)(h:iH l):sF k (yF l)=some (l,0):=by
 have:=mS l;rw[yRy hk (by omega) (by omega),UF h]
theorem UG {k}(hk:9≤k){n}(h:-9223372036854775808≤n∧n<9223372036854775808):sF k (yC n)=some ([n],0):=by
 have e:yC n=yF [n]:=by rfl
 rw[e];exact yMe hk (by grind) (by simp) fun x hx=>by simp_all
theorem UH {k}(hk:9≤k){l}(hl:l.length<k)(hm:l.length≤100000)(h:iH l) b (hb:b.length≤1000000):NH k (wH l++b)=some (l,b,true):=by
 have pT:=mS l;have hlen:(wH l++b).length=8+8*l.length+b.length:=by
  rw[List.length_append,wH,List.length_append,pT];rfl
 have t:(wH l++b).take 8=yC (l.length:Int):=rfl;have d:(wH l++b).drop 8=yF l++b:=rfl;unfold NH;rw[ab (by omega),an,aa (by omega),ak,t,UG hk (by omega),ae,d];have oV:(yF l++b).length=8*l.length+b.length:=by simp_all
 have w1:zA (Int.tdiv ((yF l++b).length:Int) 8)=((l.length+b.length/8:Nat):Int):=by
  rw[oV];have:Int.tdiv ((8*l.length+b.length:Nat):Int) 8=(((8*l.length+b.length)/8:Nat):Int):=rfl;rw[this,zO (by omega) (by omega)];omega
 have w2:zA (8*(l.length:Int))=((8*l.length:Nat):Int):=by rw[zO (by omega) (by omega)];omega
 have bd:zB 0 [(l.length:Int)].length=true:=rfl;simp only[List.getD_cons_zero];rw[ab (by simp),w1,w2,ab (by grind),aa (by grind),
  aa (by grind),au,show List.take (8*l.length) (yF l++b)=yF l from by grind,show List.drop (8*l.length) (yF l++b)=b from by grind]
 rw[yMe hk hl (by omega) h];rfl
def Ba (b:AC):Int:=wN .i64 (shl .i64 (zA (b.getD 0 0)) 8) (zA (b.getD 1 0))
def Cut (b:AC):Prop:=b.length<2∨Ba b>60000∨Ba b>(b.length:Int)-2
def jN (l:EQ):AC:=l.flatMap wD
theorem yGg {r}(hr:r.length≤60000){b}(h0:b.getD 0 0=(wD r).getD 0 0)(h1:b.getD 1 0=(wD r).getD 1 0):Ba b=(r.length:Int):=by
 unfold Ba;rw[h0,h1];have e0:(wD r).getD 0 0=((r.length/256:Nat):Int):=by
  show IntKind.wrap .u8 (shr .i64 (r.length:Int) 8)=_;rw[I4];have:shr .i64 (r.length:Int) 8=((r.length/256:Nat):Int):=by
   show(r.length:Int).fdiv (2^8)=_;grind
  omega
 have e1:(wD r).getD 1 0=((r.length%256:Nat):Int):=by
  rfl
 rw[e0,e1,zO (by omega) (by omega),zO (by omega) (by omega)];have e2:shl .i64 ((r.length/256:Nat):Int) 8=((r.length/256*256:Nat):Int):=by
  show zA (((r.length/256:Nat):Int)*2^8)=_;exact zO (by omega) (by omega)
 rw[e2];show IntKind.wrap .i64 (((BitVec.ofInt 64 ((r.length/256*256:Nat):Int)|||BitVec.ofInt 64 ((r.length%256:Nat):Int)).toNat:Nat):Int)=_;rw[yHc _ _ (by omega) (by omega)];have:=zO (x:=((r.length/256*256+r.length%256:Nat):Int)) (by omega) (by omega);grind
theorem yWr {r:AC}(hr:r.length≤60000){j:Nat}(hj:j<r.length+2):Cut ((wD r).take j):=by
 have hl:=uq r;by_cases h:j<2
 ·left;rw[List.length_take];omega
 ·right;right;have g:∀i,i<2→((wD r).take j).getD i 0=(wD r).getD i 0:=fun i hi=>by
   rw[List.getD_eq_getElem?_getD,List.getD_eq_getElem?_getD,List.getElem?_take_of_lt (by omega)]
  rw[yGg hr (g 0 (by omega)) (g 1 (by omega)),List.length_take];omega
theorem DX:Cut []:=.inl (by decide)
theorem yJo {k:Nat}{t:AC}(ht:Cut t)(pE:t.length≤1000000):∀(l:EQ) (n:Nat) (r:EQ),(∀x∈l,x.length≤60000)→l.length<n→(jN l).length≤1000000→r.length+l.length≤1000000→DY k n (jN l++t) r=some (t,r++l)
 |[],n,r,_,hn,_,_=>by
  obtain⟨n,rfl⟩:∃m,n=m+1:=⟨n-1,by omega⟩;rw[List.append_nil];show DZ k (DY k n) t r=_;unfold DZ;by_cases h2:t.length<2
  ·rw[ab (by omega)];rfl
  ·rw[aa (by omega),jS (by omega) (by omega),jS (by omega) (by omega)];simp only[ak];have e:wN .i64 (shl .i64 (zA (t.getD 0 0)) 8) (zA (t.getD 1 0))=Ba t:=rfl;rw[e,zO (x:=(t.length:Int)-2) (by omega) (by omega)];by_cases h3:Ba t>60000
   ·rw[aa h3];rfl
   ·rw[ab h3,aa (show Ba t>(t.length:Int)-2 by rcases ht with h|h|h;exact absurd h h2;exact absurd h h3;exact h)];rfl
 |x::l,n,r,hl,hn,hb,hr=>by
  obtain⟨n,rfl⟩:∃m,n=m+1:=⟨n-1,by omega⟩;have hx:=hl x (List.mem_cons_self ..);have ex:jN (x::l)=wD x++jN l:=by simp[jN]
  have rQ:=uq x;rw[ex,List.length_append] at hb;have ih:=yJo (k:=k) ht pE l n (r++[x]) (fun y hy=>hl y (List.mem_cons_of_mem _ hy)) (by simp at hn;omega) (by omega) (by rw[List.length_append];simp at hr⊢;omega);rw[ex,List.append_assoc];obtain⟨B,hB⟩:∃B,jN l++t=B:=⟨_,rfl⟩;rw[hB] at ih⊢;have hBl:B.length≤2000000:=by rw[←hB,List.length_append];omega
  have hlen:(wD x++B).length=x.length+2+B.length:=by rw[List.length_append,rQ]
  show DZ k (DY k n) (wD x++B) r=_;unfold DZ;rw[aa (by omega),jS (by omega) (by omega),jS (by omega) (by omega)];simp only[ak];have e:wN .i64 (shl .i64 (zA ((wD x++B).getD 0 0)) 8) (zA ((wD x++B).getD 1 0))=(x.length:Int):=yGg hx rfl rfl;have hs:qS (wD x++B) 2 (x.length+2-2)=x:=by
   unfold qS;show List.take (x.length+2-2) (x++B)=x;exact List.take_left' (by omega)
  have hd:List.drop (x.length+2) (wD x++B)=B:=List.drop_left' rQ;have w2:zA (2+(x.length:Int))=((x.length+2:Nat):Int):=by rw[zO (by omega) (by omega)];omega
  rw[e,w2,zO (x:=((wD x++B).length:Int)-2) (by omega) (by omega),ab (show¬(x.length:Int)>60000 by omega),ab (show¬(x.length:Int)>((wD x++B).length:Int)-2 by omega),au,hs,hd,
   aa (show(2:Int)≤((x.length+2:Nat):Int) by omega),aa (show(0:Int)≤((x.length+2:Nat):Int) by omega),aa (show((x.length+2:Nat):Int)≤((wD x++B).length:Int) by omega),qK (by omega) (by omega),qK (by simp at hr;omega) (by simp at hr;omega)]
  simp only[an,Bool.and_self,ak];rw[ih,List.append_assoc];rfl
theorem yRq {k t}(ht:Cut t)(pE:t.length≤1000000){l}(hl:∀x∈l,x.length≤60000)(hn:l.length<k)(hm:l.length≤1000000)(hb:(jN l).length≤1000000):NI k (jN l++t)=some (l,(t.length:Int)):=by
 unfold NI;rw[yJo ht pE l k [] hl hn hb (by simp_all)];rfl
abbrev qY:=Int×Int×Int
abbrev zH:=Int×Int×Int×Int×Int×Int×Int
def eM (a:qY):Bool:=decide (a.1>-4611686018427387904)&&(decide (a.1<4611686018427387904)&&(decide (a.2.1≥0)&&(decide (a.2.1≤2305843009213693952)&&(decide (a.2.2≥0)&&decide (a.2.2≤2305843009213693952)))))
def wO (n:Int):Bool:=decide (n≥-1)&&decide (n≤2305843009213693952)
def gG (n:Int):Bool:=decide (n>-72057594037927936)&&decide (n<72057594037927936)
def cell (m:EQ)(i j:Nat):Int:=(m.getD i []).getD j 0
def mU (n:Nat)(m:EQ):Bool:=decide (m.length=n)&&qG (fun i=>decide ((m.getD i []).length=n)) n 0
def pU (p:Int→Bool)(n:Nat)(m:EQ):Bool:=qG (fun i=>qG (fun j=>p (cell m i j)) n 0) n 0
def xo (n:Nat)(m:EQ):Bool:=qG (fun i=>qG (fun j=>decide (cell m i j=zA (0-cell m j i))) n 0) n 0
def mV (xp:List qY)(bil:EQ)(mul:AC)(pos:EQ):Bool:=
 let n:=xp.length
 decide (1≤n)&&(decide (n≤6)&&(mU n bil&&(mU n pos&&(decide (mul.length=n)&&(qG (fun i=>eM (xp.getD i (0,0,0))) n 0&&(qG (fun i=>wO (mul.getD i 0)) n 0&&(pU wO n bil&&(pU gG n pos&&xo n pos))))))))
theorem UI k b c r:I6 k b c r=some (eM (b,c,r)):=by
 unfold I6 eM;grind
theorem yDk k b c r:NJ k b c r=some (eM (b,c,r)):=UI k b c r
theorem UJ k n:I7 k n=some (wO n):=by
 unfold I7 wO;grind
theorem vIu k n:UK k n=some (wO n):=UJ k n
theorem vS6 k n:NK k n=some (gG n):=by
 unfold NK gG;grind
theorem yEq {k:Nat}{n:Nat}(hk:n<k)(hn:n≤1000)(m:EQ):I8 k m n=some (mU n m):=by
 unfold I8 mU;simp only[sC];by_cases h:m.length=n
 ·have := lu (L := fun c i => I9 k c m n i) (N := n) (fun i => decide ((m.getD i []).length = n)) (.inl ()) (.inr false) (fun c=>by
    show D4 k _ m n n=_;unfold D4;simp only [qR, ab (Nat.lt_irrefl n), an]) (fun c i hi=>by
    show D4 k _ m n i=_;unfold D4;simp only[qC,qE hi (by omega),qR,sC,au,h,aa hi,ak];cases decide ((m.getD i []).length=n)<;>rfl) hk
  simp only[h,decide_true,aB,an,Bool.true_and];rw[this];generalize qG _ _ _=r;cases r<;>rfl
 ·simp only[ab h,bZ,ak,Bool.false_and]
theorem vM0 {k:Nat}{N i:Nat}(hk:N<k)(hN:N≤1000)(hi:i<N){a:List qY}{b p:EQ}{m:AC}(hb:b.length=N)(hp:p.length=N)(UL:∀j,j<N→(b.getD j []).length=N)(pV:∀j,j<N→(p.getD j []).length=N):
  D5 k k N i 0 a b m p=some (bif qG (fun j=>wO (cell b i j)&&(gG (cell p i j)&&decide (cell p i j=zA (0-cell p j i)))) N 0 then .inl ((N:Int),(i:Int),a,b,m,p) else .inr false):=by
 refine lu (L:=fun c j=>D5 k c N i j a b m p) (N:=N) _ (.inl ((N:Int),(i:Int),a,b,m,p)) (.inr false) (fun c=>?_) (fun c j hj=>?_) hk
 ·show D6 k _ N i N a b m p=_;unfold D6;simp only[qR,ab (Nat.lt_irrefl N),an]
 ·show D6 k _ N i j a b m p=_;unfold D6;simp only[qC,qE hj (by omega),qR,au,hb,hp,UL i hi,pV i hi,pV j hj,aa hj,aa hi,ak,UJ,ae,gG];show(bif !wO (cell b i j) then _ else bif decide (cell p i j≤_) then _ else bif decide (cell p i j≥_) then _ else bif !decide (cell p i j=_) then _ else _)=_;have e1:decide (cell p i j≤-72057594037927936)= !decide (cell p i j>-72057594037927936):=by
   by_cases h:cell p i j≤-72057594037927936
   ·rw[aa h,ab (by omega)];rfl
   ·rw[ab h,aa (by omega)];rfl
  have e2:decide (cell p i j≥72057594037927936)= !decide (cell p i j<72057594037927936):=by
   by_cases h:cell p i j≥72057594037927936
   ·rw[aa h,ab (by omega)];rfl
   ·rw[ab h,aa (by omega)];rfl
  rw[e1,e2];show(bif !wO (cell b i j) then _ else bif _ then _ else bif _ then _ else bif !decide (cell p i j=zA (0-cell p j i)) then _ else _)=_;cases wO (cell b i j)<;>cases decide (cell p i j>-72057594037927936)<;>cases decide (cell p i j<72057594037927936)<;>cases decide (cell p i j=zA (0-cell p j i))<;>rfl
theorem vNt {k:Nat}{N:Nat}(hk:N<k)(hN:N≤1000){a:List qY}{b p:EQ}{m:AC}(ha:a.length=N)(hm:m.length=N)(hb:b.length=N)(hp:p.length=N)(UL:∀j,j<N→(b.getD j []).length=N)(pV:∀j,j<N→(p.getD j []).length=N):
  D7 k k N 0 a b m p=some (bif qG (fun i=>eM (a.getD i (0,0,0))&&(wO (m.getD i 0)&&qG (fun j=>wO (cell b i j)&&(gG (cell p i j)&&decide (cell p i j=zA (0-cell p j i)))) N 0)) N 0 then .inl () else .inr false):=by
 refine lu (L:=fun c j=>D7 k c N j a b m p) (N:=N) _ (.inl ()) (.inr false) (fun c=>?_) (fun c i hi=>?_) hk
 ·show D8 k _ N N a b m p=_;unfold D8;simp only[qR,ab (Nat.lt_irrefl N),an]
 ·show D8 k _ N i a b m p=_;unfold D8;simp only[qC,qR,au,ha,hm,aa hi,ak,UJ,UI,ae,vM0 hk hN hi hb hp UL pV];generalize qG _ N 0=r;show(bif !eM (a.getD i (0,0,0)) then _ else _)=_;cases eM (a.getD i (0,0,0))<;>cases wO (m.getD i 0)<;>cases r<;>simp only[aB,bZ,ak,an,Bool.and_true,Bool.and_false,Bool.true_and,Bool.false_and,qE hi (show N<9223372036854775808 by omega)]
theorem vG2 {k:Nat}(hk:10<k)(a:List qY)(b:EQ)(m:AC)(p:EQ):NL k a b m p=some (mV a b m p):=by
 unfold NL;have l1:decide ((a.length:Int)<1)= !decide (1≤a.length):=by
  by_cases h:1≤a.length
  ·rw[aa h,ab (by omega)];rfl
  ·rw[ab h,aa (by omega)];rfl
 have l2:decide ((a.length:Int)>6)= !decide (a.length≤6):=by
  by_cases h:a.length≤6
  ·rw[aa h,ab (by omega)];rfl
  ·rw[ab h,aa (by omega)];rfl
 rw[l1,l2];unfold mV;dsimp only;by_cases h1:1≤a.length
 case neg=>rw[ab h1];rfl
 by_cases h2:a.length≤6
 case neg=>rw[aa h1,ab h2];rfl
 rw[aa h1,aa h2];simp only[aB,an,Bool.true_and];rw[yEq (by omega) (by omega),yEq (by omega) (by omega)];simp only[ae,sC];cases hb:mU a.length b with
 |false=>rfl
 |true=>
  cases hp:mU a.length p with
  |false=>rfl
  |true=>
   by_cases hm:m.length=a.length
   case neg=>simp only[ab hm];rfl
   simp only[mU,bb,aX,gg] at hb hp;simp only[hm,decide_true,aB,an,Bool.true_and];rw[vNt (by omega) (by omega) rfl hm hb.1 hp.1 hb.2 hp.2];have e:(qG (fun i=>eM (a.getD i (0,0,0))) a.length 0&&(qG (fun i=>wO (m.getD i 0)) a.length 0&&(pU wO a.length b&&(pU gG a.length p&&xo a.length p))))=
     qG (fun i=>eM (a.getD i (0,0,0))&&(wO (m.getD i 0)&&qG (fun j=>wO (cell b i j)&&(gG (cell p i j)&&decide (cell p i j=zA (0-cell p j i)))) a.length 0)) a.length 0:=by
    rw[Bool.eq_iff_iff];simp only[pU,xo,bb,gg];constructor
    ·rintro⟨h1,h2,h3,h4,h5⟩ i hi
     exact⟨h1 i hi,h2 i hi,fun j hj=>⟨h3 i hi j hj,h4 i hi j hj,h5 i hi j hj⟩⟩
    ·intro h;exact⟨fun i hi=>(h i hi).1,fun i hi=>(h i hi).2.1,fun i hi j hj=>((h i hi).2.2 j hj).1,fun i hi j hj=>((h i hi).2.2 j hj).2.1,fun i hi j hj=>((h i hi).2.2 j hj).2.2⟩
   rw[e];generalize qG _ _ _=r;cases r<;>rfl
theorem vC4 {k}{a:List qY}(hk:a.length<k)(hl:a.length<9223372036854775808):NM k a=some (!qG (fun i=>eM (a.getD i (0,0,0))) a.length 0):=by
 obtain ⟨x, h1, h2⟩ := xi (L := fun c i => Ja k c a a.length i) (N := a.length) (fun i => !eM (a.getD i (0, 0, 0))) (fun c=>by
  show D9 k _ a a.length a.length=_;unfold D9;simp) (fun c i hi=>by
  show D9 k _ a a.length i=_;unfold D9 UM;simp[qC,qE hi hl,aa hi,yDk]) hk
 unfold NM UN;grind
theorem vJn {k a}(hk:a.length<k)(hl:a.length<9223372036854775808):NN k a=some (!qG (fun i=>wO (a.getD i 0)) a.length 0):=by
 obtain ⟨x, h1, h2⟩ := xi (L := fun c i => Jb k c a a.length i) (N := a.length) (fun i => !wO (a.getD i 0)) (fun c=>by
  show Ea k _ a a.length a.length=_;unfold Ea;simp) (fun c i hi=>by
  show Ea k _ a a.length i=_;unfold Ea UO;simp[qC,qE hi hl,aa hi,vIu]) hk
 unfold NN UP;grind
theorem vM2 {k a}(hk:a.length<k)(hl:a.length<9223372036854775808):NO k a=some (!qG (fun i=>gG (a.getD i 0)) a.length 0):=by
 obtain ⟨x, h1, h2⟩ := xi (L := fun c i => Jc k c a a.length i) (N := a.length) (fun i => !gG (a.getD i 0)) (fun c=>by
  show Eb k _ a a.length a.length=_;unfold Eb;simp) (fun c i hi=>by
  show Eb k _ a a.length i=_;unfold Eb UQ;simp[qC,qE hi hl,aa hi,vS6]) hk
 unfold NO UR;grind
theorem yA5 {k n:Nat}(hk:n<k)(hn:n≤1000)(a:AC):Jd k a n=some (decide (a.length=n)&&qG (fun i=>wO (a.getD i 0)) n 0):=by
 unfold Jd;simp only[sC];by_cases h:a.length=n
 ·rw[vJn (by omega) (by omega)];simp only[h,decide_true,ak,ae,Bool.not_not,Bool.true_and]
 ·simp only[ab h,an,Bool.false_and]
theorem vZm {k n:Nat}(hk:n<k)(hn:n≤1000)(a:AC):NP k a n=some (decide (a.length=n)&&qG (fun i=>gG (a.getD i 0)) n 0):=by
 unfold NP;simp only[sC];by_cases h:a.length=n
 ·rw[vM2 (by omega) (by omega)];simp only[h,decide_true,ak,ae,Bool.not_not,Bool.true_and]
 ·simp only[ab h,an,Bool.false_and]
theorem US {k n:Nat}(hk:n<k)(hn:n≤1000)(m:EQ):NQ k m n=some (decide (m.length=n)&&qG (fun i=>decide ((m.getD i []).length=n)&&qG (fun j=>wO (cell m i j)) n 0) n 0):=by
 unfold NQ;simp only[sC];by_cases h:m.length=n
 ·have := lu (L := fun c i => Je k c n m n i) (N := n) (fun i => decide ((m.getD i []).length = n) && qG (fun j => wO (cell m i j)) n 0) (.inl ()) (.inr false) (fun c=>by
    show Ec k _ n m n n=_;unfold Ec;simp only [qR, ab (Nat.lt_irrefl n), an]) (fun c i hi=>by
    show Ec k _ n m n i=_;unfold Ec;simp only[qC,qE hi (by omega),qR,au,h,aa hi,ak,yA5 hk hn,ae];show(bif !(decide ((m.getD i []).length=n)&&qG (fun j=>wO (cell m i j)) n 0) then _ else _)=_;generalize (decide ((m.getD i []).length=n)&&qG (fun j=>wO (cell m i j)) n 0)=r;cases r<;>rfl) hk
  simp only[h,decide_true,aB,an,Bool.true_and];rw[this];generalize qG _ _ _=r;cases r<;>rfl
 ·simp only[ab h,bZ,ak,Bool.false_and]
theorem vYt {k n:Nat}(hk:n<k)(hn:n≤1000)(m:EQ):NR k m n=some (decide (m.length=n)&&qG (fun i=>decide ((m.getD i []).length=n)&&qG (fun j=>gG (cell m i j)) n 0) n 0):=by
 unfold NR;simp only[sC];by_cases h:m.length=n
 ·have := lu (L := fun c i => Jf k c n m n i) (N := n) (fun i => decide ((m.getD i []).length = n) && qG (fun j => gG (cell m i j)) n 0) (.inl ()) (.inr false) (fun c=>by
    show Ed k _ n m n n=_;unfold Ed;simp only [qR, ab (Nat.lt_irrefl n), an]) (fun c i hi=>by
    show Ed k _ n m n i=_;unfold Ed;simp only[qC,qE hi (by omega),qR,au,h,aa hi,ak,vZm hk hn,ae];show(bif !(decide ((m.getD i []).length=n)&&qG (fun j=>gG (cell m i j)) n 0) then _ else _)=_;generalize (decide ((m.getD i []).length=n)&&qG (fun j=>gG (cell m i j)) n 0)=r;cases r<;>rfl) hk
  simp only[h,decide_true,aB,an,Bool.true_and];rw[this];generalize qG _ _ _=r;cases r<;>rfl
 ·simp only[ab h,bZ,ak,Bool.false_and]
theorem UT {k N i:Nat}(hk:N<k)(hN:N≤1000)(hi:i<N){p q:EQ}{u:Int}(hp:p.length=N)(pV:∀j,j<N→(p.getD j []).length=N):
  Ee k k p i q u i (p.getD i []) N 0=some (bif qG (fun j=>decide (cell p j i=zA (0-cell p i j))) N 0 then .inl (p,q,u,(i:Int)) else .inr false):=by
 refine lu (L:=fun c j=>Ee k c p i q u i (p.getD i []) N j) (N:=N) _ (.inl (p,q,u,(i:Int))) (.inr false) (fun c=>?_) (fun c j hj=>?_) hk
 ·show Ef k _ p i q u i (p.getD i []) N N=_;unfold Ef;simp only[qR,ab (Nat.lt_irrefl N),an]
 ·show Ef k _ p i q u i (p.getD i []) N j=_;unfold Ef;simp only[qC,qE hj (show N<9223372036854775808 by omega),qR,au,hp,pV i hi,pV j hj,aa hj,aa hi,ak];show(bif !decide (cell p j i=zA (0-cell p i j)) then _ else _)=_;generalize decide (cell p j i=zA (0-cell p i j))=r;cases r<;>rfl
theorem vYb {k N}(hk:N<k)(hN:N≤1000){p}(hp:p.length=N)(pV:∀j,j<N→(p.getD j []).length=N):
  NS k p=some (xo N p):=by
 have := lu (L := fun c i => Jg k c p p N i) (N := N) (fun i => qG (fun j => decide (cell p j i = zA (0 - cell p i j))) N 0) (.inl ()) (.inr false) (fun c=>by
   show Eg k _ p p N N=_;unfold Eg;simp) (fun c i hi=>by
   show Eg k _ p p N i=_;unfold Eg;simp only[qC,qR,au,hp,pV i hi,aa hi,UT hk hN hi hp pV,ae];generalize qG _ N 0=r;cases r<;>simp[qE hi (by grind)]) hk
 unfold NS;have e:qG (fun i=>qG (fun j=>decide (cell p j i=zA (0-cell p i j))) N 0) N 0=xo N p:=by
  rw[Bool.eq_iff_iff];simp[xo,gg];grind
 grind
theorem yKd {k:Nat}(hk:10<k)(a:List qY)(b:EQ)(m:AC)(p:EQ):Bb k a b m p=some (mV a b m p):=by
 unfold Bb;have l1:decide ((a.length:Int)<1)= !decide (1≤a.length):=by
  by_cases h:1≤a.length
  ·rw[aa h,ab (by omega)];rfl
  ·rw[ab h,aa (by omega)];rfl
 have l2:decide ((a.length:Int)>6)= !decide (a.length≤6):=by
  by_cases h:a.length≤6
  ·rw[aa h,ab (by omega)];rfl
  ·rw[ab h,aa (by omega)];rfl
 rw[l1,l2];unfold mV;dsimp only;by_cases h1:1≤a.length
 case neg=>rw[ab h1];rfl
 by_cases h2:a.length≤6
 case neg=>rw[aa h1,ab h2];rfl
 rw[aa h1,aa h2];simp only[aB,an,Bool.true_and];rw[vC4 (by omega) (by omega),US (by omega) (by omega),yA5 (by omega) (by omega),vYt (by omega) (by omega)];simp only[ae];generalize hA:qG (fun i=>eM (a.getD i (0,0,0))) a.length 0=A;have sq:∀(q:Int→Bool) (m:EQ),(decide (m.length=a.length)&&qG (fun i=>decide ((m.getD i []).length=a.length)&&qG (fun j=>q (cell m i j)) a.length 0) a.length 0)=(mU a.length m&&pU q a.length m):=by
  intro q m;rw[Bool.eq_iff_iff];simp only[mU,pU,bb,aX,gg];exact⟨fun h=>⟨⟨h.1,fun i hi=>(h.2 i hi).1⟩,fun i hi=>(h.2 i hi).2⟩,fun h=>⟨h.1.1,fun i hi=>⟨h.1.2 i hi,h.2 i hi⟩⟩⟩
 rw[sq wO b,sq gG p];cases hp:mU a.length p with
 |false=>
  cases A<;>cases mU a.length b<;>cases pU wO a.length b<;>cases decide (m.length=a.length)<;>cases qG (fun i=>wO (m.getD i 0)) a.length 0<;>rfl
 |true=>
  simp only[mU,bb,aX,gg] at hp;rw[vYb (N:=a.length) (by omega) (by omega) hp.1 hp.2];cases A<;>cases mU a.length b<;>cases pU wO a.length b<;>cases decide (m.length=a.length)<;>cases qG (fun i=>wO (m.getD i 0)) a.length 0<;>cases pU gG a.length p<;>cases xo a.length p<;>rfl
theorem yNh {k N:Nat}{s}(hN:s.length=N)(hl:N≤1000)(hr:∀i,i<N→(s.getD i []).length≤1000):∀c i n,i+c=N→c<n→Jh k n s i (s.take i)=some s
 |0,i,n,h,hn=>by
  obtain⟨n,rfl⟩:∃m,n=m+1:=⟨n-1,by omega⟩;show Eh k _ s i (s.take i)=_;unfold Eh;grind
 |c+1,i,n,h,hn=>by
  obtain⟨n,rfl⟩:∃m,n=m+1:=⟨n-1,by omega⟩;show Eh k _ s i (s.take i)=_;unfold Eh;have hi:i<s.length:=by omega
  have h1:=hr i (by omega);have e1:zQ (0+(s.getD i []).length) 8=true:=qK (by omega) (by omega);have e2:zQ ((s.take i).length+1) 24=true:=qK (by grind) (by grind);simp only[qC,qE hi (by grind),qR,au,aa hi,e1,e2];rw[fG s i [] hi];exact yNh hN hl hr c (i+1) n (by omega) (by omega)
theorem yZv {k s}(hl:s.length≤1000)(hk:s.length<k)(hr:∀i,i<s.length→(s.getD i []).length≤1000):Ji k s=some s:=by
 unfold Ji;have:=yNh (k:=k) rfl hl hr s.length 0 k (by omega) hk;simp_all
theorem yK9 {k N:Nat}{s}(hN:s.length=N)(hl:N≤1000)(hr:∀i,i<N→(s.getD i []).length≤1000):∀c i n,i+c=N→c<n→Jj k n s N i (s.take i) N=some (s,N)
 |0,i,n,h,hn=>by
  obtain⟨n,rfl⟩:∃m,n=m+1:=⟨n-1,by omega⟩;show Ei k _ s N i (s.take i) N=_;unfold Ei;grind
 |c+1,i,n,h,hn=>by
  obtain⟨n,rfl⟩:∃m,n=m+1:=⟨n-1,by omega⟩;show Ei k _ s N i (s.take i) N=_;unfold Ei pW;have hi:i<N:=by omega
  have h1:=hr i (by omega);have e1:zQ (0+(s.getD i []).length) 8=true:=qK (by omega) (by omega);have e2:Nat.beq i (s.take i).length=true:=by rw[List.length_take,Nat.min_eq_left (by omega)];simp
  simp only[qC,qE hi (by grind),qR,au,aa hi,ak,e1,e2,hN,ae];rw[fG s i [] (by omega)];exact yK9 hN hl hr c (i+1) n (by omega) (by omega)
theorem yJb {k s}(hl:s.length≤1000)(hk:s.length<k)(hr:∀i,i<s.length→(s.getD i []).length≤1000):Jk k s=some s:=by
 unfold Jk UU;have:=yK9 (k:=k) rfl hl hr s.length 0 k (by omega) hk;rw[List.take_zero] at this;have e:((0:Nat):Int)=0:=rfl;rw[e] at this;have e1:zQ (0+s.length) 24=true:=qK (by omega) (by omega);simp only[e1,ak,ae];rw[this];simp only[vP9];simp
structure Sized (a:List qY) (b:EQ) (m:AC) (p:EQ):Prop where
 n1:1≤a.length
 n6:a.length≤6
 bl:b.length=a.length
 br:∀i,i<a.length→(b.getD i []).length=a.length
 ml:m.length=a.length
 pl:p.length=a.length
 pr:∀i,i<a.length→(p.getD i []).length=a.length
structure wS (a:List qY) (b:EQ) (m:AC) (p:EQ):Prop extends Sized a b m p where
 acct:∀i,i<a.length→eM (a.getD i (0,0,0))=true
 mul:∀i,i<a.length→wO (m.getD i 0)=true
 bil:∀i,i<a.length→∀j,j<a.length→wO (cell b i j)=true
 net:∀i,i<a.length→∀j,j<a.length→gG (cell p i j)=true
 turn:∀i,i<a.length→∀j,j<a.length→cell p i j=zA (0-cell p j i)
theorem NT {a:List qY}{b:EQ}{m:AC}{p:EQ}:mV a b m p=true↔wS a b m p:=by
 unfold mV;simp only[bb,aX,mU,pU,xo,gg];constructor
 ·rintro⟨h1,h2,⟨h3,h4⟩,⟨h5,h6⟩,h7,h8,h9,Jl,UW,h12⟩
  exact{n1:=h1,n6:=h2,bl:=h3,br:=h4,ml:=h7,pl:=h5,pr:=h6,acct:=h8,mul:=h9,bil:=Jl,net:=UW,turn:=h12}
 ·intro h;exact⟨h.n1,h.n6,⟨h.bl,h.br⟩,⟨h.pl,h.pr⟩,h.ml,h.acct,h.mul,h.bil,h.net,h.turn⟩
theorem Jm {k}(hk:10<k){a b m p}(h:Sized a b m p):oW k a b m p=some (a,b,m,p):=by
 obtain⟨h1,h2,h3,h4,h5,h6,h7⟩:=h;unfold oW;have e1:zQ (0+a.length) 24=true:=qK (by omega) (by omega);have e2:zQ (0+m.length) 8=true:=qK (by omega) (by omega);rw[yZv (s:=b) (by omega) (by omega) (by grind),yZv (s:=p) (by omega) (by omega) (by grind)];grind
theorem Jn {k}(hk:10<k){a b m p}(h:Sized a b m p):gk k a b m p=some (a,b,m,p):=by
 obtain⟨h1,h2,h3,h4,h5,h6,h7⟩:=h;unfold gk UX pW;have e1:zQ (0+a.length) 24=true:=qK (by omega) (by omega);have e2:zQ (0+m.length) 8=true:=qK (by omega) (by omega);rw[yJb (s:=b) (by omega) (by omega) (by grind),yJb (s:=p) (by omega) (by omega) (by grind)];grind
theorem Jo {α:Type} d [DecidableEq α]{a b:List α}(h:a.length=b.length):qG (fun i=>decide (a.getD i d=b.getD i d)) a.length 0=decide (a=b):=by
 rw[Bool.eq_iff_iff,gg];simp;exact⟨fun h'=>DK d h h',by grind⟩
theorem NU {k:Nat}{a b:AC}(hk:a.length<k)(hl:a.length<9223372036854775808):ur k a b=some (decide (a=b)):=by
 unfold ur;simp only[sC];by_cases h:a.length=b.length
 ·have := lu (L := fun c i => Jp k c a b i) (N := a.length) (fun i => decide (a.getD i 0 = b.getD i 0)) (.inl ()) (.inr false) (fun c=>by
    show Ej k _ a b a.length=_;unfold Ej;simp only [qR, ab (Nat.lt_irrefl _), an]) (fun c i hi=>by
    show Ej k _ a b i=_;unfold Ej;simp only[qC,qE hi hl,qR,au,←h,aa hi,ak];cases decide (a.getD i 0=b.getD i 0)<;>rfl) hk
  rw[Jo 0 h] at this;simp only[h,decide_true,aB,an];rw[this];cases decide (a=b)<;>rfl
 ·simp only[ab h,bZ,ak];rw[ab fun e=>h (by rw[e])]
theorem UY {k:Nat}{a b:EQ}(hk:a.length<k)(hl:a.length<9223372036854775808)(hr:∀i,i<a.length→(a.getD i []).length<k∧(a.getD i []).length<9223372036854775808):Bc k a b=some (decide (a=b)):=by
 unfold Bc;simp only[sC];by_cases h:a.length=b.length
 ·have := lu (L := fun c i => Jq k c a b i) (N := a.length) (fun i => decide (a.getD i [] = b.getD i [])) (.inl ()) (.inr false) (fun c=>by
    show Ek k _ a b a.length=_;unfold Ek;simp only [qR, ab (Nat.lt_irrefl _), an]) (fun c i hi=>by
    show Ek k _ a b i=_;unfold Ek;simp only[qC,qE hi hl,qR,au,←h,aa hi,ak,NU (hr i hi).1 (hr i hi).2,ae];cases decide (a.getD i []=b.getD i [])<;>rfl) hk
  rw[Jo [] h] at this;simp only[h,decide_true,aB,an];rw[this];cases decide (a=b)<;>rfl
 ·simp only[ab h,bZ,ak];rw[ab fun e=>h (by rw[e])]
theorem vNy {k:Nat}(hk:10<k){a:List qY}{b:EQ}{m:AC}{p:EQ}(h:Sized a b m p)(a':List qY)(b':EQ)(m':AC)(p':EQ):
  Jr k a b m p a' b' m' p'=some (decide (a=a')&&(decide (b=b')&&(decide (p=p')&&decide (m=m')))):=by
 obtain⟨h1,h2,h3,h4,h5,h6,h7⟩:=h;unfold Jr;simp only[sC];by_cases hl:a.length=a'.length
 ·rw[UY (a:=b) (by omega) (by omega) (fun i hi=>by rw[h4 i (by omega)];omega),UY (a:=p) (by omega) (by omega) (fun i hi=>by rw[h7 i (by omega)];omega),NU (by omega) (by omega)];have := lu (L := fun c i => Js k c i a b m p a' b' m' p') (N := a.length) (fun i => decide (a.getD i (0, 0, 0) = a'.getD i (0, 0, 0))) (.inl ()) (.inr false) (fun c=>by
    show El k _ a.length a b m p a' b' m' p'=_;unfold El;simp only [qR, ab (Nat.lt_irrefl _), an]) (fun c i hi=>by
    show El k _ i a b m p a' b' m' p'=_;unfold El;simp only[qC,qE hi (show a.length<9223372036854775808 by omega),qR,au,←hl,aa hi,ak];have e:decide (a.getD i (0,0,0)=a'.getD i (0,0,0))=(decide ((a.getD i (0,0,0)).1=(a'.getD i (0,0,0)).1)&&(decide ((a.getD i (0,0,0)).2.1=(a'.getD i (0,0,0)).2.1)&&decide ((a.getD i (0,0,0)).2.2=(a'.getD i (0,0,0)).2.2))):=by
     rw[Bool.eq_iff_iff];simp only[bb,aX];exact⟨fun h=>by rw[h];exact⟨rfl,rfl,rfl⟩,fun h=>Prod.ext h.1 (Prod.ext h.2.1 h.2.2)⟩
    rw[e];generalize (decide ((a.getD i (0,0,0)).1=(a'.getD i (0,0,0)).1)&&_)=r;cases r<;>rfl) (show a.length<k by omega)
  rw[Jo (0,0,0) hl] at this;simp only[hl,decide_true,aB,an,ae];have e0:((0:Nat):Int)=0:=rfl;rw[this];cases decide (b=b')<;>cases decide (p=p')<;>cases decide (m=m')<;>cases decide (a=a')<;>rfl
 ·simp only[ab hl,bZ,ak];rw[ab fun e=>hl (by rw[e])];rfl
abbrev pd:zH:=(0,(0,(0,(0,(0,(0,0))))))
abbrev ad:qY:=(0,(0,0))
def pX (n:Nat)(p:zH):Bool:=decide (p.2.1≥0)&&(decide (p.2.1<(n:Int))&&(decide (p.2.2.1≥0)&&(decide (p.2.2.1<(n:Int))&&(!decide (p.2.1=p.2.2.1)&&(decide (p.2.2.2.1≥1)&&(decide (p.2.2.2.1≤1099511627776)&&(decide (p.2.2.2.2.1≥1)&&decide (p.2.2.2.2.1≤3))))))))
structure yJ (n:Nat) (p:zH):Prop where
 f0:0≤p.2.1
 f1:p.2.1<n
 t0:0≤p.2.2.1
 t1:p.2.2.1<n
 ne:p.2.1≠p.2.2.1
 a1:1≤p.2.2.2.1
 a2:p.2.2.2.1≤1099511627776
 c1:1≤p.2.2.2.2.1
 c3:p.2.2.2.2.1≤3
theorem UZ {n p}:pX n p=true↔yJ n p:=by
 unfold pX;simp;exact⟨fun⟨h1,h2,h3,h4,h5,h6,h7,h8,h9⟩=>⟨h1,h2,h3,h4,h5,h6,h7,h8,h9⟩,fun⟨h1,h2,h3,h4,h5,h6,h7,h8,h9⟩=>by grind⟩
theorem NV k (a:List qY) b m p i f t am c s ti:Em k a b m p i f t am c s ti=some (pX a.length (i,f,t,am,c,s,ti)):=by
 unfold Em pX;grind
theorem vRb k (a:List qY) b m p i f t am c s ti:U0 k a b m p i f t am c s ti=some (pX a.length (i,f,t,am,c,s,ti)):=NV k a b m p i f t am c s ti
def nP (n:Nat)(l:List zH):Bool:=qG (fun i=>pX n (l.getD i pd)) l.length 0
theorem Bd {n l}:nP n l=true↔∀p∈l,yJ n p:=by
 unfold nP;rw[gg];constructor
 ·intro h p hp;obtain⟨i,hi,rfl⟩:=List.getElem_of_mem hp;have:=h i hi;rw[List.getD_eq_getElem?_getD,List.getElem?_eq_getElem hi] at this;exact UZ.1 this
 ·intro h i hi;exact UZ.2 (by grind)
theorem U1 {k}{l:List zH}(hk:l.length<k)(hl:l.length<9223372036854775808)(a:List qY) b m p:NW k l a b m p=some (!nP a.length l):=by
 obtain ⟨x, h1, h2⟩ := xi (L := fun c i => Jt k c l l.length i a b m p) (N := l.length) (fun i => !pX a.length (l.getD i pd)) (fun c=>by
  show En k _ l l.length l.length a b m p=_;unfold En;simp) (fun c i hi=>by
  show En k _ l l.length i a b m p=_;unfold En U2;simp[qC,qE hi hl,aa hi,NV]) hk
 unfold NW U3;unfold nP;grind
theorem yOy {k}{l:List zH}(hk:l.length<k)(hl:l.length<9223372036854775808)(a:List qY) b m p:Ju k a b m p l=some (nP a.length l&&decide (l.length≤64)):=by
 unfold Ju;have := lu (L := fun c i => Jv k c l i a b m p) (N := l.length) (fun i => pX a.length (l.getD i pd)) (.inl l) (.inr false) (fun c=>by
  show Eo k _ l l.length a b m p=_;unfold Eo;simp) (fun c i hi=>by
  show Eo k _ l i a b m p=_;unfold Eo;simp only[qC,qE hi hl,qR,aa hi,vRb];simp) hk
 unfold nP;have e:decide (((l.length:Nat):Int)≤64)=decide (l.length≤64):=by
  grind
 grind
def gB (i:Nat)(p:zH):Int:=(if p.2.2.1=i then p.2.2.2.1 else 0)-(if p.2.1=i then p.2.2.2.1 else 0)
def gS (i j:Nat)(p:zH):Int:=if p.2.1=i∧p.2.2.1=j then p.2.2.2.1 else 0
def gR (i:Nat)(p:zH):Int:=if p.2.1=i∧p.2.2.2.2.1≠3 then p.2.2.2.1 else 0
def jD (r s:Int):Int:=if s≥r then 0 else r-s
theorem vRp {r s t}(hs:0≤s)(ht:0≤t):jD (jD r s) t=jD r (s+t):=by
 unfold jD;omega
theorem U4 {r}(hr:0≤r):jD r 0=r:=by
 unfold jD;omega
theorem vZk {r s}:0≤jD r s:=by
 unfold jD;omega
theorem vIi {r s}(hr:0≤r)(hs:0≤s):jD r s≤r:=by
 unfold jD;omega
section
variable {n:Nat} {p:zH}
theorem vJa (h:yJ n p) i:-1099511627776≤gB i p∧gB i p≤1099511627776:=by
 have h1:=h.a1;have h2:=h.a2;unfold gB;omega
theorem U5 (h:yJ n p) i j:0≤gS i j p∧gS i j p≤1099511627776:=by
 have h1:=h.a1;have h2:=h.a2;unfold gS;omega
theorem NX (h:yJ n p) i:0≤gR i p∧gR i p≤1099511627776:=by
 have h1:=h.a1;have h2:=h.a2;unfold gR;omega
end
def wC (n:Nat)(l:List zH):Prop:=(∀p∈l,yJ n p)∧l.length≤64
theorem U6 {n l}(h:wC n l) i:-70368744177664≤zP (gB i) l∧zP (gB i) l≤70368744177664:=by
 have h1:=DI (g:=gB i) (A:=1099511627776) fun p hp=>vJa (h.1 p hp) i
 have h2:=h.2;omega
theorem uu {n l}(h:wC n l) i j:0≤zP (gS i j) l∧zP (gS i j) l≤70368744177664:=by
 have h1:=DI (g:=gS i j) (A:=1099511627776) fun p hp=>by have:=U5 (h.1 p hp) i j;omega
 have h0:=xj (g:=gS i j) fun p hp=>(U5 (h.1 p hp) i j).1
 have h2:=h.2;omega
theorem Be {n l}(h:wC n l) i:0≤zP (gR i) l∧zP (gR i) l≤70368744177664:=by
 have h1:=DI (g:=gR i) (A:=1099511627776) fun p hp=>by have:=NX (h.1 p hp) i;omega
 have h0:=xj (g:=gR i) fun p hp=>(NX (h.1 p hp) i).1
 have h2:=h.2;omega
theorem wC.take {n l}(h:wC n l) i:wC n (l.take i):=⟨fun p hp=>h.1 p (by grind),by rw[List.length_take];have:=h.2;omega⟩
structure uv (n:Nat) (a:List qY) (p:EQ) (l:List zH) (a':List qY) (p':EQ):Prop where
 al:a'.length=n
 acct:∀i,i<n→a'.getD i ad=((a.getD i ad).1+zP (gB i) l,(a.getD i ad).2.1,jD (a.getD i ad).2.2 (zP (gR i) l))
 pl:p'.length=n
 pr:∀i,i<n→(p'.getD i []).length=n
 cell:∀i,i<n→∀j,j<n→cell p' i j=cell p i j+zP (gS i j) l-zP (gS j i) l
theorem vNf {n p q}(hp:p.length=n)(hq:q.length=n)(pV:∀i,i<n→(p.getD i []).length=n)(hqr:∀i,i<n→(q.getD i []).length=n)(h:∀i,i<n→∀j,j<n→cell p i j=cell q i j):p=q:=
 DK [] (by omega) fun i hi=>DK 0 (by simp_all) fun j hj=>h i (by omega) j (by simp_all)
theorem uv.same {n a a1 a2 p p1 p2 l}(x:uv n a p l a1 p1)(y:uv n a p l a2 p2):a1=a2∧p1=p2:=
 ⟨DK ad (by rw[x.al,y.al]) fun i hi=>by have:=x.al;rw[x.acct i (by omega),y.acct i (by omega)],
  vNf x.pl y.pl x.pr y.pr fun i hi j hj=>by rw[x.cell i hi j hj,y.cell i hi j hj]⟩
structure NY (n:Nat) (a:List qY) (p:EQ):Prop where
 al:a.length=n
 pl:p.length=n
 pr:∀i,i<n→(p.getD i []).length=n
 bal:∀i,i<n→-4611686018427387904<(a.getD i ad).1∧(a.getD i ad).1<4611686018427387904
 res:∀i,i<n→0≤(a.getD i ad).2.2∧(a.getD i ad).2.2≤2305843009213693952
 net:∀i,i<n→∀j,j<n→-72057594037927936<cell p i j∧cell p i j<72057594037927936
theorem wS.nums {a b m p}(h:wS a b m p):NY a.length a p where
 al:=rfl
 pl:=h.pl
 pr:=h.pr
 bal:=fun i hi=>by
  have:=h.acct i hi;show-4611686018427387904<(a.getD i (0,0,0)).1∧(a.getD i (0,0,0)).1<4611686018427387904;simp only[eM,bb,aX] at this;omega
 res:=fun i hi=>by
  have:=h.acct i hi;show 0≤(a.getD i (0,0,0)).2.2∧(a.getD i (0,0,0)).2.2≤2305843009213693952;simp only[eM,bb,aX] at this;omega
 net:=fun i hi j hj=>by
  have:=h.net i hi j hj;simp[gG] at this;omega
theorem U7 {m f t i j x}(hf:f<m.length)(ht:t<(m.getD f []).length):cell (m.set f ((m.getD f []).set t x)) i j=if i=f∧j=t then x else cell m i j:=by
 unfold cell;grind
theorem NZ {n}{m:EQ}{f t x}(hm:m.length=n)(hr:∀i,i<n→(m.getD i []).length=n)(hf:f<n):∀i,i<n→((m.set f ((m.getD f []).set t x)).getD i []).length=n:=by
 grind
def Ep (p:zH)(r:List qY):List qY:=
 let y0:=r.set p.2.1.toNat (zA ((r.getD p.2.1.toNat ad).1-p.2.2.2.1),(r.getD p.2.1.toNat ad).2);let y1:=y0.set p.2.2.1.toNat (zA ((y0.getD p.2.2.1.toNat ad).1+p.2.2.2.1),(y0.getD p.2.2.1.toNat ad).2)
 bif !decide (p.2.2.2.2.1=3) then y1.set p.2.1.toNat ((y1.getD p.2.1.toNat ad).1,((y1.getD p.2.1.toNat ad).2.1,vZ false (zA ((y1.getD p.2.1.toNat ad).2.2-p.2.2.2.1)) 0)) else y1
def xq (p:zH)(m:EQ):EQ:=
 let y3:=m.set p.2.1.toNat ((m.getD p.2.1.toNat []).set p.2.2.1.toNat (zA ((m.getD p.2.1.toNat []).getD p.2.2.1.toNat 0+p.2.2.2.1)))
 y3.set p.2.2.1.toNat ((y3.getD p.2.2.1.toNat []).set p.2.1.toNat (zA ((y3.getD p.2.2.1.toNat []).getD p.2.1.toNat 0-p.2.2.2.1)))
theorem vKq p r:(Ep p r).length=r.length:=by
 unfold Ep;grind
theorem U8 {n p}(h:yJ n p){r}(hr:r.length=n){i}(hi:i<n)(hb:∀i,i<n→-4611826755915743232<(r.getD i ad).1∧(r.getD i ad).1<4611826755915743232)
  (hz:∀i,i<n→0≤(r.getD i ad).2.2∧(r.getD i ad).2.2≤2305843009213693952):(Ep p r).getD i ad=((r.getD i ad).1+gB i p,(r.getD i ad).2.1,jD (r.getD i ad).2.2 (gR i p)):=by
 obtain⟨f0,f1,t0,t1,ne,a1,a2,c1,c3⟩:=h;obtain⟨f,hf⟩:∃f:Nat,p.2.1=f:=⟨p.2.1.toNat,by omega⟩;obtain⟨t,ht⟩:∃t:Nat,p.2.2.1=t:=⟨p.2.2.1.toNat,by omega⟩;have N0:f≠t:=by omega
 have ig:f<n:=by omega
 have gH:t<n:=by omega
 have bf:=hb f ig;have bt:=hb t gH;have zf:=hz f ig;have e1:(r.set f (zA ((r.getD f ad).1-p.2.2.2.1),(r.getD f ad).2)).getD t ad=r.getD t ad:=by rw[fm,if_neg (fun e=>N0 e.1)]
 have key:∀j,j<n→((r.set f (zA ((r.getD f ad).1-p.2.2.2.1),(r.getD f ad).2)).set t (zA ((r.getD t ad).1+p.2.2.2.1),(r.getD t ad).2)).getD j ad=((r.getD j ad).1+gB j p,(r.getD j ad).2):=by
  intro j hj;unfold gB;rw[hf,ht,fm];by_cases hjt:t=j
  ·subst hjt;rw[if_pos (by grind),if_pos rfl,if_neg (by omega),zO (by omega) (by omega)];simp
  ·rw[if_neg (fun e=>hjt e.1),if_neg (by omega),fm];by_cases hjf:f=j
   ·subst hjf;rw[if_pos ⟨rfl,by omega⟩,if_pos rfl,zO (by omega) (by omega)];simp only[Int.zero_sub];rfl
   ·rw[if_neg (fun e=>hjf e.1),if_neg (by omega)];simp
 unfold Ep;simp only[hf,ht,au,e1];unfold gR;cases hc:decide (p.2.2.2.2.1=3) with
 |true=>
  have lK:p.2.2.2.2.1=3:=by simpa using hc
  simp only[aB,an];rw[key i hi,if_neg (fun e=>e.2 lK),U4 (hz i hi).1]
 |false=>
  have lK:p.2.2.2.2.1≠3:=by simpa using hc
  simp only[bZ,ak];rw[fm];by_cases hif:f=i
  ·subst hif;rw[if_pos (by grind),key f ig,if_pos ⟨hf,lK⟩];have:vZ false (zA ((r.getD f ad).2.2-p.2.2.2.1)) 0=jD (r.getD f ad).2.2 p.2.2.2.1:=by
    rw[zO (by omega) (by omega)];unfold vZ jD;grind
   rw[this]
  ·rw[if_neg (fun e=>hif e.1),key i hi,if_neg (by omega),U4 (hz i hi).1]
theorem yRl {n:Nat}{p:zH}(h:yJ n p){m:EQ}(hm:m.length=n)(hr:∀i,i<n→(m.getD i []).length=n)(hb:∀i,i<n→∀j,j<n→-72128000000000000<cell m i j∧cell m i j<72128000000000000):
  (xq p m).length=n∧(∀i,i<n→((xq p m).getD i []).length=n)∧∀i,i<n→∀j,j<n→cell (xq p m) i j=cell m i j+gS i j p-gS j i p:=by
 obtain⟨f0,f1,t0,t1,ne,a1,a2,c1,c3⟩:=h;obtain⟨f,hf⟩:∃f:Nat,p.2.1=f:=⟨p.2.1.toNat,by omega⟩;obtain⟨t,ht⟩:∃t:Nat,p.2.2.1=t:=⟨p.2.2.1.toNat,by omega⟩;have N0:f≠t:=by omega
 have ig:f<n:=by omega
 have gH:t<n:=by omega
 unfold xq;simp only[hf,ht,au];have r1:=NZ (x:=zA ((m.getD f []).getD t 0+p.2.2.2.1)) (t:=t) hm hr ig;have c1:∀i j,cell (m.set f ((m.getD f []).set t (zA ((m.getD f []).getD t 0+p.2.2.2.1)))) i j=if i=f∧j=t then zA (cell m f t+p.2.2.2.1) else cell m i j:=fun i j=>U7 (by omega) (by rw[hr f ig];omega)
 refine⟨by simp only[List.length_set];exact hm,by grind,fun i hi j hj=>?_⟩;rw[U7 (by rw[List.length_set];omega) (by rw[r1 t gH];omega)];have e2:((m.set f ((m.getD f []).set t (zA ((m.getD f []).getD t 0+p.2.2.2.1)))).getD t []).getD f 0=cell m t f:=by
  show cell _ t f=_;simp_all
 rw[e2,c1];unfold gS;rw[hf,ht];have b1:=hb f ig t gH;have b2:=hb t gH f ig;by_cases h1:i=t∧j=f
 ·obtain⟨rfl,rfl⟩:=h1;rw[if_pos ⟨rfl,rfl⟩,if_neg (by omega),if_pos ⟨rfl,rfl⟩,zO (by omega) (by omega)];omega
 ·rw[if_neg h1];by_cases h2:i=f∧j=t
  ·obtain⟨rfl,rfl⟩:=h2;rw[if_pos ⟨rfl,rfl⟩,if_pos ⟨rfl,rfl⟩,if_neg (by omega),zO (by omega) (by omega)];omega
  omega
theorem vEz {k n a b m p l}(hk:l.length<k)(hx:NY n a p)(hl:wC n l)(b0:List qY) b1 b2 b3:
  ∃a' p',Er k k l l.length 0 b0 b1 b2 b3 a b m p=some (b0,b1,b2,b3,a',b,m,p')∧uv n a p l a' p':=by
 have := vK (L := fun c i (s : List qY × EQ) => Er k c l l.length i b0 b1 b2 b3 s.1 b m s.2) (N := l.length) (fun s => (b0, b1, b2, b3, s.1, b, m, s.2)) (fun i s => uv n a p (l.take i) s.1 s.2) (fun c s hs=>by
   show Es k _ l l.length l.length b0 b1 b2 b3 s.1 b m s.2=_;unfold Es;simp) (fun c i s hi hs=>by
   refine⟨(Ep (l.getD i pd) s.1,xq (l.getD i pd) s.2),?_,?_⟩
   ·show Es k _ l l.length i b0 b1 b2 b3 s.1 b m s.2=_;have bQ:yJ n (l.getD i pd):=hl.1 _ (gh hi);unfold Es Ep xq;have nQ:=hl.2;simp only[qC,qE hi (by grind),qR,au,aa hi,ak];obtain⟨f0,f1,t0,t1,ne,a1,a2,c1,c3⟩:=bQ;obtain⟨f,hf⟩:∃f:Nat,(l.getD i pd).2.1=f:=⟨(l.getD i pd).2.1.toNat,by omega⟩;obtain⟨t,ht⟩:∃t:Nat,(l.getD i pd).2.2.1=t:=⟨(l.getD i pd).2.2.1.toNat,by omega⟩;have ig:f<n:=by omega
    have gH:t<n:=by omega
    have r1:=NZ (x:=zA ((s.2.getD f []).getD t 0+(l.getD i pd).2.2.2.1)) (t:=t) hs.pl hs.pr ig;simp only[hf,ht,au,qC,hs.al,hs.pl,List.length_set,hs.pr f ig,r1 t gH,aa ig,aa gH,ak,xr,ae];grind
   ·have bQ:yJ n (l.getD i pd):=hl.1 _ (gh hi);have aW:=hl.take i;have hp := yRl bQ hs.pl hs.pr (fun i' bI j' mH=>by
     rw[hs.cell i' bI j' mH];have h1:=hx.net i' bI j' mH;have h2:=uu aW i' j';have h3:=uu aW j' i';omega)
    refine⟨by rw[vKq];exact hs.al,fun i' bI=>?_,hp.1,hp.2.1,fun i' bI j' mH=>?_⟩
    ·rw [U8 bQ hs.al bI (fun j hj=>by
       rw[hs.acct j hj];have h1:=hx.bal j hj;have h2:=U6 aW j;dsimp only;omega) (fun j hj=>by
       rw[hs.acct j hj];have h1:=hx.res j hj;have h2:=Be aW j;dsimp only;exact⟨vZk,Int.le_trans (vIi h1.1 h2.1) h1.2⟩),hs.acct i' bI,←fG l i pd hi,ma,ma]
     dsimp only[zP];rw[vRp (Be aW i').1 (NX bQ i').1,Int.add_zero,Int.add_zero,Int.add_assoc]
    ·rw[hp.2.2 i' bI j' mH,hs.cell i' bI j' mH,←fG l i pd hi,ma,ma];dsimp only[zP];omega) (s:=(a,p)) hk ⟨hx.al,fun i hi=>by
      rw[List.take_zero];show a.getD i ad=((a.getD i ad).1+0,(a.getD i ad).2.1,jD (a.getD i ad).2.2 0);rw[U4 (hx.res i hi).1,Int.add_zero],hx.pl,hx.pr,fun i hi j hj=>by
      rw[List.take_zero];show cell p i j=cell p i j+0-0;omega⟩
 simp_all
theorem U9 {k n l}(hk:l.length<k)(hl:wC n l)(i j:Nat):xu k l i j=some (zP (gS i j) l):=by
 have nQ:=hl.2;obtain ⟨s, h1, h2⟩ := vK (L := fun c x (s : Int) => Jw k c l i j s x) (N := l.length) (fun s => s) (fun x s => s = zP (gS i j) (l.take x)) (fun c s hs=>by
   show Et k _ l i j s l.length=_;unfold Et;simp) (fun c x s hx hs=>by
   refine⟨zP (gS i j) (l.take (x+1)),?_,rfl⟩;show Et k _ l i j s x=_;have hb:=uu (hl.take x) i j;have hm:yJ n (l.getD x pd):=hl.1 _ (by grind);have e:zP (gS i j) (l.take (x+1))=s+gS i j (l.getD x pd):=by
    rw[←fG l x pd hx,ma,hs];show _+(_+0)=_;omega
   have w:=zO (x:=s+(l.getD x pd).2.2.2.1) (by have:=hm.a1;omega) (by have:=hm.a2;omega);unfold Et;simp[qC,qE hx (by grind)];rw[e];unfold gS;grind) (s:=0) hk rfl
 unfold xu;simp_all
theorem vU7 {k n l}(hk:l.length<k)(hl:wC n l)(i j:Nat):N1 k l i j=some (zP (gS i j) l-zP (gS j i) l):=by
 unfold N1;rw[U9 hk hl i j,U9 hk hl j i];have h1:=uu hl i j;have h2:=uu hl j i;simp;rw[zO (by omega) (by omega)]
def gN (i:Nat)(p:zH):Int:=if p.2.1=i∧p.2.2.2.2.1=3 then p.2.2.2.1 else 0
theorem N2 {n p}(h:yJ n p) i:0≤gN i p∧gN i p≤1099511627776:=by
 have h1:=h.a1;have h2:=h.a2;unfold gN;omega
theorem yK6 {n l}(h:wC n l) i:0≤zP (gN i) l∧zP (gN i) l≤70368744177664:=by
 have h1:=DI (g:=gN i) (A:=1099511627776) fun p hp=>by have:=N2 (h.1 p hp) i;omega
 have h0:=xj (g:=gN i) fun p hp=>(N2 (h.1 p hp) i).1
 have h2:=h.2;omega
theorem yK4 {k n:Nat}{l}(hk:l.length<k)(hl:wC n l)(i:Nat):Jx k l i=some (zP (gN i) l,zP (gR i) l):=by
 have nQ:=hl.2;obtain ⟨s, h1, h2⟩ := vK (L := fun c x (s : Int × Int) => Jy k c l i s.1 s.2 x) (N := l.length) (fun s => s) (fun x s => s = (zP (gN i) (l.take x), zP (gR i) (l.take x))) (fun c s hs=>by
   show Eu k _ l i s.1 s.2 l.length=_;unfold Eu;simp) (fun c x s hx hs=>by
   refine⟨(zP (gN i) (l.take (x+1)),zP (gR i) (l.take (x+1))),?_,rfl⟩;show Eu k _ l i s.1 s.2 x=_;have hb:=yK6 (hl.take x) i;have bH:=Be (hl.take x) i;have hm:yJ n (l.getD x pd):=hl.1 _ (by grind);have e:zP (gN i) (l.take (x+1))=s.1+gN i (l.getD x pd):=by
    rw[←fG l x pd hx,ma,hs];show _+(_+0)=_;omega
   have e':zP (gR i) (l.take (x+1))=s.2+gR i (l.getD x pd):=by
    rw[←fG l x pd hx,ma,hs];show _+(_+0)=_;omega
   have w:=zO (x:=s.1+(l.getD x pd).2.2.2.1) (by have:=hm.a1;grind) (by have:=hm.a2;grind);have w':=zO (x:=s.2+(l.getD x pd).2.2.2.1) (by have:=hm.a1;rw[hs];omega) (by have:=hm.a2;grind);unfold Eu;simp only[qC,qE hx (by grind),qR,ak];rw[e,e'];unfold gN gR;grind) (s:=(0,0)) hk rfl
 unfold Jx;simp_all
theorem vM4 {k n l}(hk:l.length<k)(hl:wC n l)(i:Nat):N3 k l i=some (zP (gR i) l):=by
 unfold N3;rw[yK4 hk hl i];rfl
theorem yJ3 k b c r s (h:-9223372036854775808≤r-s)(h':r<9223372036854775808)(hs:0≤s):Jz k b c r s=some (jD r s):=by
 unfold Jz jD;by_cases e:s≥r
 ·simp_all
 ·rw[ab e,if_neg e,zO h (by omega)];rfl
theorem yMg {n l}(hl:∀p∈l,yJ n p) i (hi:i<n):qH (fun j=>zP (gS i j) l-zP (gS j i) l) n= -zP (gB i) l:=by
 have e1:qH (fun j=>zP (gS i j) l-zP (gS j i) l) n=qH (fun j=>zP (fun p=>gS i j p-gS j i p) l) n:=sD fun j _=>(Uy _ _ l).symm
 rw[e1,Nz (fun j p=>gS i j p-gS j i p)];have e2:∀p∈l,qH (fun j=>gS i j p-gS j i p) n=0-gB i p:=by
  intro p hp;obtain⟨f0,f1,t0,t1,ne,a1,a2,c1,c3⟩:=hl p hp;obtain⟨f,hf⟩:∃f:Nat,p.2.1=f:=⟨p.2.1.toNat,by omega⟩;obtain⟨t,ht⟩:∃t:Nat,p.2.2.1=t:=⟨p.2.2.1.toNat,by omega⟩;have g1:∀j,gS i j p-gS j i p=(if j=t then(if f=i then p.2.2.2.1 else 0) else 0)+(if j=f then(if t=i then-p.2.2.2.1 else 0) else 0):=by
   unfold gS;omega
  rw[sD fun j _=>g1 j,DJ,A3,A3];unfold gB;omega
 rw[Ny e2,Uy];have:zP (fun _:zH=>(0:Int)) l=0:=by
  clear e1 e2 hl
  induction l with
  |nil=>rfl
  |cons p l ih=>show 0+zP _ l=0;omega
 omega
structure vGv (n:Nat) (a:List qY) (p:EQ) (l:List zH) (i:Nat) (a':List qY) (p':EQ):Prop where
 al:a'.length=n
 done:∀x,x<n→x<i→a'.getD x ad=((a.getD x ad).1+zP (gB x) l,(a.getD x ad).2.1,jD (a.getD x ad).2.2 (zP (gR x) l))
 rest:∀x,x<n→¬x<i→a'.getD x ad=a.getD x ad
 pl:p'.length=n
 pr:∀x,x<n→(p'.getD x []).length=n
 cell:∀x,x<n→∀y,y<n→cell p' x y=if x<i then cell p x y+zP (gS x y) l-zP (gS y x) l else cell p x y
structure Va (n:Nat) (a:List qY) (p:EQ) (l:List zH) (i j:Nat) (a':List qY) (p':EQ):Prop where
 al:a'.length=n
 done:∀x,x<n→x<i→a'.getD x ad=((a.getD x ad).1+zP (gB x) l,(a.getD x ad).2.1,jD (a.getD x ad).2.2 (zP (gR x) l))
 here:a'.getD i ad=((a.getD i ad).1-qH (fun j=>zP (gS i j) l-zP (gS j i) l) j,(a.getD i ad).2.1,jD (a.getD i ad).2.2 (zP (gR i) l))
 rest:∀x,x<n→i<x→a'.getD x ad=a.getD x ad
 pl:p'.length=n
 pr:∀x,x<n→(p'.getD x []).length=n
 cell:∀x,x<n→∀y,y<n→cell p' x y=if x<i∨(x=i∧y<j) then cell p x y+zP (gS x y) l-zP (gS y x) l else cell p x y
theorem vOs {k n a p l}(hk:n<k)(bN:l.length<k)(hn:n≤1000)(hx:NY n a p)(hl:wC n l){i}(hi:i<n)(b0:List qY) b1 b2 b3 b m
  {a0 p0} (h0:Va n a p l i 0 a0 p0):∃a' p',Ev k k l i 0 b0 b1 b2 b3 a0 b m p0=some (l,(i:Int),b0,b1,b2,b3,a',b,m,p')∧Va n a p l i n a' p':=by
 obtain ⟨s, h1, h2⟩ := vK (L := fun c j (s : List qY × EQ) => Ev k c l i j b0 b1 b2 b3 s.1 b m s.2) (N := n) (fun s => (l, (i : Int), b0, b1, b2, b3, s.1, b, m, s.2)) (fun j s => Va n a p l i j s.1 s.2) (fun c s hs=>by
   show Ew k _ l i n b0 b1 b2 b3 s.1 b m s.2=_;unfold Ew;simp only [qR, hs.al, ab (Nat.lt_irrefl _), an]) (fun c j s hj hs=>by
   refine⟨(s.1.set i (zA ((s.1.getD i ad).1-(zP (gS i j) l-zP (gS j i) l)),(s.1.getD i ad).2),s.2.set i ((s.2.getD i []).set j (zA ((s.2.getD i []).getD j 0+(zP (gS i j) l-zP (gS j i) l))))),?_,?_⟩
   ·show Ew k _ l i j b0 b1 b2 b3 s.1 b m s.2=_;unfold Ew;simp only[qC,qE hj (by grind),qR,au,hs.al,hs.pl,hs.pr i hi,aa hi,aa hj,ak,vU7 bN hl,ae]
   ·have hb:=hx.bal i hi;have hg:∀j,-70368744177664≤zP (gS i j) l-zP (gS j i) l∧zP (gS i j) l-zP (gS j i) l≤70368744177664:=fun j=>by
     have h1:=uu hl i j;have h2:=uu hl j i;omega
    have Dg:=xk hg j;have DD:=hg j;have pY:=hx.net i hi j hj;have hc:=hs.cell i hi j hj;rw[if_neg (by omega)] at hc;refine⟨by simp only[List.length_set];exact hs.al,fun x j5 xv=>?_,?_,fun x j5 xv=>?_,by simp only[List.length_set];exact hs.pl,NZ hs.pl hs.pr hi,fun x j5 y JA=>?_⟩
    ·rw[fm,if_neg (by grind)];exact hs.done x j5 xv
    ·rw[fm,if_pos ⟨rfl,by rw[hs.al];exact hi⟩,hs.here];dsimp only;rw[zO (by omega) (by omega)];show(_,_)=((a.getD i ad).1-(qH _ j+_),_);grind
    ·rw[fm,if_neg (by grind)];exact hs.rest x j5 xv
    ·have e:(s.2.getD i []).getD j 0=cell p i j:=hc;rw[U7 (by rw[hs.pl];exact hi) (by rw[hs.pr i hi];exact hj),e];by_cases N4:x=i∧y=j
     ·obtain⟨rfl,rfl⟩:=N4;rw[if_pos ⟨rfl,rfl⟩,if_pos (by omega),zO (by omega) (by omega)];omega
     ·rw[if_neg N4,hs.cell x j5 y JA];omega) (s:=(a0,p0)) hk h0
 grind
theorem vFu {k n a b m p l}(hk:n<k)(bN:l.length<k)(hn:n≤1000)(hx:NY n a p)(hl:wC n l)(b0:List qY) b1 b2 b3:
  ∃a' p',Ey k k l 0 b0 b1 b2 b3 a b m p=some (b0,b1,b2,b3,a',b,m,p')∧uv n a p l a' p':=by
 obtain ⟨s, h1, h2⟩ := vK (L := fun c i (s : List qY × EQ) => Ey k c l i b0 b1 b2 b3 s.1 b m s.2) (N := n) (fun s => (b0, b1, b2, b3, s.1, b, m, s.2)) (fun i s => vGv n a p l i s.1 s.2) (fun c s hs=>by
   show Ez k _ l n b0 b1 b2 b3 s.1 b m s.2=_;unfold Ez;simp only [qR, hs.al, ab (Nat.lt_irrefl _), an]) (fun c i s hi hs=>by
   have hai:=hs.rest i hi (by simp);have hr:=hx.res i hi;have hsp:=Be hl i;obtain⟨a',p',h1,h2⟩:=vOs (a0:=s.1.set i ((s.1.getD i ad).1,((s.1.getD i ad).2.1,jD (s.1.getD i ad).2.2 (zP (gR i) l)))) (p0:=s.2) hk bN hn hx hl hi b0 b1 b2 b3 b m ⟨by rw[List.length_set];exact hs.al,fun x j5 xv=>by
     rw[fm,if_neg (by grind)];exact hs.done x j5 xv,by
     rw[fm,if_pos ⟨rfl,by rw[hs.al];exact hi⟩,hai];show _=((a.getD i ad).1-0,_,_);simp,fun x j5 xv=>by
     rw[fm,if_neg (by grind)];exact hs.rest x j5 (by omega),hs.pl,hs.pr,fun x j5 y JA=>by
     rw[hs.cell x j5 y JA];omega⟩
   refine⟨(a',p'),?_,?_⟩
   ·show Ez k _ l i b0 b1 b2 b3 s.1 b m s.2=_;unfold Ez;have hK:=yJ3 k (s.1.getD i ad).1 (s.1.getD i ad).2.1 (s.1.getD i ad).2.2 (zP (gR i) l) (by grind) (by grind) hsp.1;simp only[qC,qR,au,hs.al,aa hi,ak,vM4 bN hl,ae];rw[hK];simp only[ae];rw[h1];simp only[ae,qE hi (by grind)]
   ·refine⟨h2.al,fun x j5 xv=>?_,fun x j5 xv=>h2.rest x j5 (by omega),h2.pl,h2.pr,fun x j5 y JA=>?_⟩
    ·by_cases h:x<i
     ·exact h2.done x j5 h
     ·have:x=i:=by omega
      subst this;rw[h2.here,yMg hl.1 x j5];simp
    ·rw[h2.cell x j5 y JA];omega) (s:=(a,p)) hk ⟨hx.al,by simp,by simp,hx.pl,hx.pr,by simp⟩
 exact⟨s.1,s.2,h1,h2.al,fun i hi=>h2.done i hi hi,h2.pl,h2.pr,fun i hi j hj=>by rw[h2.cell i hi j hj,if_pos hi]⟩
def sH (a:List qY)(b:EQ)(m:AC)(p:EQ)(l:List zH)(r:List qY×EQ×AC×EQ×Int):Prop:=
 (wC a.length l→∃a' p',uv a.length a p l a' p'∧r=(bif mV a' b m p' then(a',b,m,p',0) else(a,b,m,p,8)))∧(¬wC a.length l→r=(a,b,m,p,1))
theorem N5 {k}(hk:100<k){a b m p}{l:List zH}(h:wS a b m p)(hl:l.length≤80):∃r,pZ k a b m p l=some r∧sH a b m p l r:=by
 unfold pZ sH;have e:decide (((l.length:Nat):Int)>64)=decide (¬l.length≤64):=by
  grind
 rw[e];by_cases bP:l.length≤64
 case neg=>
  rw[aa bP];exact⟨_,rfl,fun e=>absurd e.2 bP,by simp⟩
 rw[ab (by omega),U1 (by omega) (by omega)];cases hm:nP a.length l with
 |false=>
  refine⟨_,rfl,fun e=>?_,by simp⟩;rw[Bd.2 e.1] at hm;cases hm
 |true=>
  have aW:wC a.length l:=⟨Bd.1 hm,bP⟩;simp only[Jn (show 10<k by omega) h.toSized,ae];obtain⟨a',p',h1,h2⟩:=vEz (b:=b) (m:=m) (show l.length<k by omega) h.nums aW a b m p;rw[h1];simp only[ae,yKd (show 10<k by omega)];cases hB:mV a' b m p' with
  |true=>exact⟨_,rfl,by grind,by grind⟩
  |false=>exact⟨_,rfl,by grind,by grind⟩
theorem vMf {k}(hk:100<k){a b m p}{l:List zH}(h:wS a b m p)(hl:l.length≤80):∃r,Bf k a b m p l=some r∧sH a b m p l r:=by
 unfold Bf sH;rw[yOy (by omega) (by omega)];cases hm:nP a.length l with
 |false=>
  refine⟨_,rfl,fun e=>?_,by simp⟩;rw[Bd.2 e.1] at hm;cases hm
 |true=>
  by_cases bP:l.length≤64
  case neg=>
   rw[ab bP];exact⟨_,rfl,fun e=>absurd e.2 bP,by simp⟩
  have aW:wC a.length l:=⟨Bd.1 hm,bP⟩;have h6:=h.n6;rw[aa bP];simp only[Jm (show 10<k by omega) h.toSized,ae];obtain⟨a',p',h1,h2⟩:=vFu (b:=b) (m:=m) (show a.length<k by omega) (by grind) (by omega) h.nums aW a b m p;rw[h1];simp only[ae,vG2 (show 10<k by omega)];cases hB:mV a' b m p' with
  |true=>exact⟨_,rfl,by grind,by grind⟩
  |false=>exact⟨_,rfl,by grind,by grind⟩
theorem sH.same {a b m p l r r'}(h:sH a b m p l r)(h':sH a b m p l r'):r=r':=by
 by_cases c:wC a.length l
 ·obtain⟨a1,p1,x,rfl⟩:=h.1 c;obtain⟨a2,p2,y,rfl⟩:=h'.1 c;obtain⟨rfl,rfl⟩:=x.same y;rfl
 ·rw[h.2 c,h'.2 c]
theorem vOe {k n i p}(hk:n<k)(hn:n≤100)(hi:i<n)(hp:p.length=n)(hr:(p.getD i []).length=n)(hb:∀j,-72057594037927936≤cell p i j∧cell p i j≤72057594037927936)(a:List qY) b m:
  N6 k a b m p i=some (qH (cell p i) n):=by
 obtain ⟨s, h1, h2⟩ := vK (L := fun c j (s : Int) => EA k c i s j a b m p) (N := n) (fun s => s) (fun j s => s = qH (cell p i) j) (fun c s hs=>by
   show EB k _ i s n a b m p=_;unfold EB;simp only [qC, qR, au, hp, hr, aa hi, ab (Nat.lt_irrefl _), an, ak]) (fun c j s hj hs=>by
   refine⟨qH (cell p i) (j+1),?_,rfl⟩;show EB k _ i s j a b m p=_;have h1:=xk hb j;have h2:=hb j;unfold EB;simp only[qC,qE hj (by grind),qR,au,hp,hr,aa hi,aa hj];show EA k c i (zA (s+cell p i j)) _ a b m p=_;rw[hs,zO (by omega) (by omega)];rfl) (s:=0) hk rfl
 unfold N6;simp_all
theorem N7 {a b m p}(hb:wS a b m p){i}(hi:i<a.length) j:-72057594037927936≤cell p i j∧cell p i j≤72057594037927936:=by
 by_cases hj:j<a.length
 ·have:=hb.net i hi j hj;simp[gG] at this;omega
 ·have:cell p i j=0:=by
   unfold cell;rw[List.getD_eq_getElem?_getD,List.getElem?_eq_none]
   ·rfl
   ·rw[hb.pr i hi];omega
  omega
theorem N8 {S X:Type}{L:Nat→Int→S→Option X}{N} ok (e:S→X) b (inv:Nat→S→Prop)(bM:∀n s,inv N s→L (n+1) (N:Int) s=some (e s))
  (aL:∀n i s,i<N→inv i s→(ok i=true→∃s',L (n+1) (i:Int) s=L n ((i+1:Nat):Int) s'∧inv (i+1) s')∧(ok i=false→L (n+1) (i:Int) s=some b)):
  ∀c i n s,i+c=N→c<n→inv i s→(qG ok c i=true∧∃s',L n (i:Int) s=some (e s')∧inv N s')∨(qG ok c i=false∧L n (i:Int) s=some b)
 |0,i,n,s,h,hn,hs=>by
  obtain⟨n,rfl⟩:∃m,n=m+1:=⟨n-1,by omega⟩;have:i=N:=by omega
  subst this;exact .inl ⟨rfl,s,bM n s hs,hs⟩
 |c+1,i,n,s,h,hn,hs=>by
  obtain⟨n,rfl⟩:∃m,n=m+1:=⟨n-1,by omega⟩;obtain⟨h1,h2⟩:=aL n i s (by omega) hs;unfold qG;cases ho:ok i with
  |true=>
   obtain⟨s',h3,h4⟩:=h1 ho;rw[h3];exact N8 ok e b inv bM aL c (i+1) n s' (by omega) (by omega) h4
  |false=>simp_all
def dS (l:List zH)(i j:Nat):Int:=zP (gS i j) l-zP (gS j i) l
def uw (b p:EQ)(l:List zH)(i j:Nat):Bool:= !(decide (zP (gS i j) l>0)&&(!decide (cell b i j= -1)&&decide (cell p i j+dS l i j>cell b i j)))
def gI (a:List qY)(b:EQ)(m:AC)(p:EQ)(l:List zH)(i:Nat):Bool:=
 !decide (zP (gN i) l + zP (gR i) l = 0) && (!qG (uw b p l i) a.length 0 || (decide ((a.getD i ad).1+(a.getD i ad).2.1+zP (gB i) l<0)||
  ((decide (zP (gN i) l>0)&&decide ((a.getD i ad).1+(a.getD i ad).2.1+zP (gB i) l<jD (a.getD i ad).2.2 (zP (gR i) l)))||
   (!decide (m.getD i 0= -1)&&decide (qH (cell p i) a.length-zP (gB i) l>m.getD i 0)))))
theorem EC {n l}(hl:wC n l) i j:-70368744177664≤dS l i j∧dS l i j≤70368744177664:=by
 have h1:=uu hl i j;have h2:=uu hl j i;unfold dS;omega
theorem vWg {k:Nat}{a:List qY}{b:EQ}{m:AC}{p:EQ}{l:List zH}(hk:100<k)(hb:wS a b m p)(hl:wC a.length l){i:Nat}(hi:i<a.length)(x y n0 dN:Int)
  (H4:-6917529027641081856≤n0∧n0≤6917529027641081856) (pY:-576460752303423488≤dN∧dN≤576460752303423488):
  sJ k k l i x y n0 dN 0 a b m p=some (bif qG (uw b p l i) a.length 0 then .inl ((i:Int),x,y,n0-qH (dS l i) a.length,dN+qH (dS l i) a.length,a,b,m,p) else .inr true):=by
 have h6:=hb.n6;have bN:l.length<k:=by have:=hl.2;omega
 have := N8 (L := fun c j (s : Int × Int) => sJ k c l i x y s.1 s.2 j a b m p) (N := a.length) (uw b p l i) (fun s => .inl ((i : Int), x, y, s.1, s.2, a, b, m, p)) (.inr true) (fun j s => s = (n0 - qH (dS l i) j, dN + qH (dS l i) j)) (fun c s hs=>by
   show ED k _ l i x y s.1 s.2 a.length a b m p=_;unfold ED;simp only [qR, ab (Nat.lt_irrefl _), an]) (fun c j s hj hs=>by
   have Dg:=xk (fun j=>EC hl i j) j;have DD:=EC hl i j;have hj1:(j:Int)*70368744177664≤6*70368744177664:=by omega
   have pY:=hb.nums.net i hi j hj;have e1:sJ k (c+1) l i x y s.1 s.2 j a b m p=bif uw b p l i j then sJ k c l i x y (n0-qH (dS l i) (j+1)) (dN+qH (dS l i) (j+1)) ((j+1:Nat):Int) a b m p else some (.inr true):=by
    show ED k _ l i x y s.1 s.2 j a b m p=_;unfold ED;simp only[qC,qE hj (show a.length<9223372036854775808 by omega),qR,au,aa hi,aa hj,ak,U9 bN hl,ae,hb.bl,hb.br i hi,hb.pl,hb.pr i hi];have ed:zA (zP (gS i j) l-zP (gS j i) l)=dS l i j:=zO (by have:=DD.1;unfold dS at this;omega) (by have:=DD.2;unfold dS at this;omega);rw[ed];have e2:zA (s.1-dS l i j)=n0-qH (dS l i) (j+1):=by
     rw[hs];show zA (n0-qH (dS l i) j-dS l i j)=n0-(qH (dS l i) j+dS l i j);rw[zO (by omega) (by omega)];omega
    have e3:zA (s.2+dS l i j)=dN+qH (dS l i) (j+1):=by
     rw[hs];show zA (dN+qH (dS l i) j+dS l i j)=dN+(qH (dS l i) j+dS l i j);rw[zO (by omega) (by omega)];omega
    rw[e2,e3];show(bif decide (zP (gS i j) l>0) then(bif !decide (cell b i j= -1) then(bif decide (zA (cell p i j+dS l i j)>cell b i j) then _ else _) else _) else _)=_;rw[zO (x:=cell p i j+dS l i j) (by omega) (by omega)];unfold uw;cases decide (zP (gS i j) l>0)<;>cases decide (cell b i j= -1)<;>cases decide (cell p i j+dS l i j>cell b i j)<;>rfl
   refine⟨fun ho=>⟨_,?_,rfl⟩,fun ho=>?_⟩
   ·rw[e1,ho];rfl
   ·rw [e1, ho]; rfl) a.length 0 k (n0, dN) (by omega) (by omega) (by
    show(n0,dN)=(n0-0,dN+0);rw[Int.sub_zero,Int.add_zero])
 rcases this with⟨h1,s,h2,h3⟩|⟨h1,h2⟩
 ·have N9:sJ k k l i x y n0 dN 0 a b m p=_:=h2;rw[N9,h1,h3];rfl
 ·have N9:sJ k k l i x y n0 dN 0 a b m p=_:=h2;rw[N9,h1];rfl
theorem vAh {n l}(hl:∀p∈l,yJ n p) i (hi:i<n):qH (dS l i) n= -zP (gB i) l:=yMg hl i hi
theorem yFo {k a b m p l}(hk:100<k)(hb:wS a b m p)(hl:wC a.length l){i}(hi:i<a.length):Oa k a b m p l i=some (gI a b m p l i):=by
 have h6:=hb.n6;have bN:l.length<k:=by have:=hl.2;omega
 have hN:=yK6 hl i;have hR:=Be hl i;have hx:=hb.acct i hi;simp only[eM,bb,aX] at hx;have Bg:-4611686018427387904<(a.getD i ad).1∧(a.getD i ad).1<4611686018427387904∧0≤(a.getD i ad).2.1∧(a.getD i ad).2.1≤2305843009213693952∧0≤(a.getD i ad).2.2∧(a.getD i ad).2.2≤2305843009213693952:=by grind
 have pY:=xk (N7 hb hi) a.length;unfold Oa;rw[yK4 bN hl];simp only[ae];rw[zO (x:=zP (gN i) l+zP (gR i) l) (by omega) (by omega)];unfold gI;cases hz:decide (zP (gN i) l+zP (gR i) l=0) with
 |true=>rfl
 |false=>
  rw[qC,aa hi];simp only[au];rw[vOe (by omega) (by omega) hi hb.pl (hb.pr i hi) (N7 hb hi)];simp only[ae];rw[zO (x:=(a.getD i (0,(0,0))).1+(a.getD i (0,(0,0))).2.1) (by omega) (by omega)];rw[vWg hk hb hl hi _ _ _ _ (by omega) (by omega),vAh hl.1 i hi];cases qG (uw b p l i) a.length 0 with
  |false=>rfl
  |true=>
   have hK:=yJ3 k (a.getD i ad).1 (a.getD i ad).2.1 (a.getD i ad).2.2 (zP (gR i) l) (by omega) (by omega) hR.1;simp[qC,hb.ml];grind
theorem vQn {k:Nat}{a:List qY}{b:EQ}{m:AC}{p:EQ}{l:List zH}(hk:100<k)(hb:wS a b m p)(hl:wC a.length l):∃r,ux k a b m p l=some r∧(r=[]↔qG (fun i=> !gI a b m p l i) a.length 0=true):=by
 have h6:=hb.n6;obtain ⟨r, h1, h2⟩ := vK (L := fun c i (r : AC) => uy k c l i a b m p r) (N := a.length) (fun r => r) (fun i r => (r = [] ↔ ∀ j, j < i → gI a b m p l j = false) ∧ r.length ≤ i) (fun c r hr=>by
   show sK k _ l a.length a b m p r=_;unfold sK;simp only [qR, ab (Nat.lt_irrefl _), an]) (fun c i r hi hr=>by
   have aO:zQ (r.length+1) 8=true:=qK (by omega) (by omega);have e:uy k (c+1) l i a b m p r=uy k c l ((i+1:Nat):Int) a b m p (bif gI a b m p l i then r++[(i:Int)] else r):=by
    show sK k _ l i a b m p r=_;unfold sK;simp only[qE hi (show a.length<9223372036854775808 by omega),qR,aa hi,ak,yFo hk hb hl hi,ae,aO];cases gI a b m p l i<;>rfl
   refine⟨_,e,?_⟩;cases hs:gI a b m p l i with
   |true=>
    refine⟨⟨fun h=>?_,fun h=>?_⟩,by simp only[ak,List.length_append,List.length_cons,List.length_nil];omega⟩
    ·simp at h
    ·rw[h i (Nat.lt_succ_self i)] at hs;cases hs
   |false=>
    refine⟨⟨fun h j hj=>?_,fun h=>?_⟩,by simp only[an];omega⟩
    ·by_cases c:j=i
     ·subst c;exact hs
     ·exact hr.1.1 h j (by omega)
    ·exact hr.1.2 fun j hj=>h j (by omega)) (s:=[]) (show a.length<k by omega) ⟨⟨fun _ j hj=>absurd hj (Nat.not_lt_zero j),fun _=>rfl⟩,Nat.le_refl 0⟩
 unfold ux;rw[h1];refine⟨r,rfl,h2.1.trans ?_⟩;rw[gg];exact⟨fun h j hj=>by rw[h j hj];rfl,fun h j hj=>by have:=h j hj;simpa using this⟩
def xw (a:List qY)(b:EQ)(m:AC)(p:EQ)(l:List zH):Bool:=(nP a.length l&&decide (l.length≤64))&&qG (fun i=> !gI a b m p l i) a.length 0
theorem vPb {k a b m p}{l:List zH}(hk:100<k)(hb:wS a b m p)(hl:l.length≤80):JB k a b m p l=some (xw a b m p l):=by
 unfold JB xw;rw[yOy (by omega) (by omega)];cases hm:(nP a.length l&&decide (l.length≤64)) with
 |false=>rfl
 |true=>
  simp  at hm;obtain⟨r,h1,h2⟩:=vQn hk hb ⟨Bd.1 hm.1,hm.2⟩;simp_all
theorem Vb {k n i p}(hk:n<k)(hn:n≤100)(hi:i<n)(hp:p.length=n)(hr:(p.getD i []).length=n)(hb:∀j,-72057594037927936≤cell p i j∧cell p i j≤72057594037927936)(a:List qY) b m:
  Ob k a b m p i=some (qH (cell p i) n):=by
 obtain ⟨s, h1, h2⟩ := vK (L := fun c j (s : Int) => EE k c s (p.getD i []) n j) (N := n) (fun s => s) (fun j s => s = qH (cell p i) j) (fun c s hs=>by
   show EF k _ s (p.getD i []) n n=_;unfold EF;simp) (fun c j s hj hs=>by
   refine⟨qH (cell p i) (j+1),?_,rfl⟩;show EF k _ s (p.getD i []) n j=_;have h1:=xk hb j;have h2:=hb j;unfold EF;simp only[qC,qE hj (by grind),qR,hr,aa hj];show EE k c (zA (s+cell p i j)) _ _ _=_;rw[hs,zO (by omega) (by omega)];rfl) (s:=0) hk rfl
 unfold Ob;simp[qC];simp_all
theorem yGr k {n:Nat}(hn:n≤6):JC k n=some true:=by
 unfold JC;grind
theorem yNb {α:Type}(v z:α) n i (hi:i<n):(List.replicate i v++List.replicate (n-i) z).set i v=List.replicate (i+1) v++List.replicate (n-(i+1)) z:=by
 have e:List.replicate (n-i) z=z::List.replicate (n-(i+1)) z:=by
  rw[show n-i=(n-(i+1))+1 by omega];rfl
 rw[List.set_append_right _ _ (by simp),List.length_replicate,Nat.sub_self,e];simp[List.replicate_succ']
theorem yU4 {k n}(hk:n<k)(hn:n≤6) v:Bh k n v=some (List.replicate n v):=by
 unfold Bh;rw[yGr k hn];obtain ⟨s, h1, h2⟩ := vK (L := fun c i (s : AC) => JD k c v n i s) (N := n) (fun s => s) (fun i s => s = List.replicate i v ++ List.replicate (n - i) 0) (fun c s hs=>by
   show EG k _ v n n s=_;unfold EG;simp) (fun c i s hi hs=>by
   refine⟨_,?_,rfl⟩;show EG k _ v n i s=_;have hl:s.length=n:=by grind
   unfold EG;simp[qC,qE hi (by grind),aa hi,hl];rw[hs,yNb v 0 n i hi]) (s:=List.replicate n 0) hk (by simp)
 grind
theorem vR1 {k n}(hk:n<k)(hn:n≤6) v:EH k n v=some (List.replicate n (List.replicate n v)):=by
 unfold EH;rw[yGr k hn];obtain ⟨s, h1, h2⟩ := vK (L := fun c i (s : EQ) => JE k c n v n i s) (N := n) (fun s => s) (fun i s => s = List.replicate i (List.replicate n v) ++ List.replicate (n - i) []) (fun c s hs=>by
   show EI k _ n v n n s=_;unfold EI;simp) (fun c i s hi hs=>by
   refine⟨_,?_,rfl⟩;show EI k _ n v n i s=_;have hl:s.length=n:=by grind
   unfold EI;simp[qC,qE hi (by grind),aa hi,hl,yU4 hk hn];rw[hs,yNb (List.replicate n v) [] n i hi]) (s:=List.replicate n []) hk (by simp)
 grind
def uz (a:List qY)(b:EQ)(m:AC)(p:EQ)(l:List zH):AC:=((List.range a.length).filter fun i=>gI a b m p l i).map fun(i:Nat)=>(i:Int)
structure Oc (n:Nat) (l:List zH) (r2 r3:AC) (m4:EQ):Prop where
 l2:r2.length=n
 l3:r3.length=n
 l4:m4.length=n
 r4:∀i,i<n→(m4.getD i []).length=n
 more:∀i,i<n→r2.getD i 0=zP (gB i) l
 spent:∀i,i<n→r3.getD i 0=zP (gR i) l
 sent:∀i,i<n→∀j,j<n→cell m4 i j=dS l i j
def JF (p:zH)(r:AC):AC:=
 let y0:=r.set p.2.1.toNat (zA (r.getD p.2.1.toNat 0-p.2.2.2.1))
 y0.set p.2.2.1.toNat (zA (y0.getD p.2.2.1.toNat 0+p.2.2.2.1))
def JG (p:zH)(r:AC):AC:=bif !decide (p.2.2.2.2.1=3) then r.set p.2.1.toNat (zA (r.getD p.2.1.toNat 0+p.2.2.2.1)) else r
theorem Vc {n p}(h:yJ n p){r}(hr:r.length=n){i}(hi:i<n)(hb:∀i,i<n→-4611826755915743232<r.getD i 0∧r.getD i 0<4611826755915743232):(JF p r).getD i 0=r.getD i 0+gB i p:=by
 obtain⟨f0,f1,t0,t1,ne,a1,a2,c1,c3⟩:=h;obtain⟨f,hf⟩:∃f:Nat,p.2.1=f:=⟨p.2.1.toNat,by omega⟩;obtain⟨t,ht⟩:∃t:Nat,p.2.2.1=t:=⟨p.2.2.1.toNat,by omega⟩;have N0:f≠t:=by omega
 have ig:f<n:=by omega
 have gH:t<n:=by omega
 unfold JF gB;simp only[hf,ht,au];have b1:=hb f ig;have b2:=hb t gH;have key:∀x,(r.set f (zA (r.getD f 0-p.2.2.2.1))).getD x 0=if f=x then zA (r.getD f 0-p.2.2.2.1) else r.getD x 0:=by grind
 rw[fm,List.length_set,key t,if_neg N0,key i];by_cases h1:t=i
 ·subst h1;rw[if_pos (by grind),if_pos rfl,if_neg (by omega),zO (by omega) (by omega)];omega
 ·rw[if_neg (by grind),if_neg (c:=((t:Int)=i)) (by omega)];by_cases h2:f=i
  ·subst h2;rw[if_pos rfl,if_pos rfl,zO (by omega) (by omega)];omega
  omega
theorem vY4 {n p}(h:yJ n p){r}(hr:r.length=n){i}(hi:i<n)(hb:∀i,i<n→-4611826755915743232<r.getD i 0∧r.getD i 0<4611826755915743232):(JG p r).getD i 0=r.getD i 0+gR i p:=by
 obtain⟨f0,f1,t0,t1,ne,a1,a2,c1,c3⟩:=h;obtain⟨f,hf⟩:∃f:Nat,p.2.1=f:=⟨p.2.1.toNat,by omega⟩;have ig:f<n:=by omega
 have b1:=hb f ig;unfold JG gR;simp only[hf,au];by_cases hc:p.2.2.2.2.1=3
 ·simp_all
 ·rw[ab hc];simp only[bZ,ak];rw[fm];by_cases h2:f=i
  ·subst h2;rw[if_pos (by grind),if_pos (by grind),zO (by omega) (by omega)]
  omega
theorem vKn l p i j:dS (l++[p]) i j=dS l i j+gS i j p-gS j i p:=by
 unfold dS;rw[ma,ma];dsimp only[zP];omega
theorem Od {α:Type} n i (v d:α)(h:i<n):(List.replicate n v).getD i d=v:=by
 simp_all
theorem vCv {k n l}(hk:100<k)(hn:n≤6)(hl:wC n l):∃r2 r3 m4,Oe k n l=some (r2,r3,m4)∧Oc n l r2 r3 m4:=by
 have nQ:=hl.2;have := vK (L := fun c i (s : AC × AC × EQ) => JH k c l l.length i s.1 s.2.1 s.2.2) (N := l.length) (fun s => s) (fun i s => Oc n (l.take i) s.1 s.2.1 s.2.2) (fun c s hs=>by
   show EJ k _ l l.length l.length s.1 s.2.1 s.2.2=_;unfold EJ;simp) (fun c i s hi hs=>by
   have bQ:yJ n (l.getD i pd):=hl.1 _ (gh hi);refine⟨(JF (l.getD i pd) s.1,JG (l.getD i pd) s.2.1,xq (l.getD i pd) s.2.2),?_,?_⟩
   ·show EJ k _ l l.length i s.1 s.2.1 s.2.2=_;unfold EJ JF JG xq;simp only[qC,qE hi (by grind),qR,au,aa hi,ak];obtain⟨f0,f1,t0,t1,ne,a1,a2,c1,c3⟩:=bQ;obtain⟨f,hf⟩:∃f:Nat,(l.getD i pd).2.1=f:=⟨(l.getD i pd).2.1.toNat,by omega⟩;obtain⟨t,ht⟩:∃t:Nat,(l.getD i pd).2.2.1=t:=⟨(l.getD i pd).2.2.1.toNat,by omega⟩;have ig:f<n:=by omega
    have gH:t<n:=by omega
    have r1:=NZ (x:=zA ((s.2.2.getD f []).getD t 0+(l.getD i pd).2.2.2.1)) (t:=t) hs.l4 hs.r4 ig;simp only[hf,ht,au,qC,hs.l2,hs.l3,hs.l4,List.length_set,hs.r4 f ig,r1 t gH,aa ig,aa gH,ak];grind
   ·have aW:=hl.take i;have hp := yRl bQ hs.l4 hs.r4 (fun i' bI j' mH=>by
     rw[hs.sent i' bI j' mH];have:=EC aW i' j';omega)
    have hbM:∀i',i'<n→-4611826755915743232<s.1.getD i' 0∧s.1.getD i' 0<4611826755915743232:=fun i' bI=>by
     rw[hs.more i' bI];have:=U6 aW i';omega
    have hbS:∀i',i'<n→-4611826755915743232<s.2.1.getD i' 0∧s.2.1.getD i' 0<4611826755915743232:=fun i' bI=>by
     rw[hs.spent i' bI];have:=Be aW i';omega
    refine⟨by unfold JF;simp[hs.l2],by unfold JG;cases decide ((l.getD i pd).2.2.2.2.1=3)<;>simp[hs.l3],hp.1,hp.2.1,fun i' bI=>?_,fun i' bI=>?_,fun i' bI j' mH=>?_⟩
    ·rw[Vc bQ hs.l2 bI hbM,hs.more i' bI,←fG l i pd hi,ma];dsimp only[zP];omega
    ·rw[vY4 bQ hs.l3 bI hbS,hs.spent i' bI,←fG l i pd hi,ma];dsimp only[zP];omega
    ·rw[hp.2.2 i' bI j' mH,hs.sent i' bI j' mH,←fG l i pd hi,vKn]) (n:=k) (s:=(List.replicate n 0,List.replicate n 0,List.replicate n (List.replicate n 0))) (by omega) ⟨by simp,by simp,by simp,by grind,fun i hi=>by rw[Od n i _ _ hi];rfl,fun i hi=>by rw[Od n i _ _ hi];rfl,fun i hi j hj=>by
    unfold cell;rw[Od n i _ _ hi,Od n j _ _ hj];rfl⟩
 obtain⟨s,h1,h2⟩:=this;rw[List.take_of_length_le (Nat.le_refl _)] at h2;refine⟨s.1,s.2.1,s.2.2,?_,h2⟩;unfold Oe;rw[yU4 (by omega) hn,vR1 (by omega) hn];simp_all
theorem vVo {k}{l:List zH}(hk:l.length<k)(hl:l.length<9223372036854775808) i:Of k l i=some (!qG (fun x=> !decide ((l.getD x pd).2.1=i)) l.length 0):=by
 obtain ⟨x, h1, h2⟩ := xi (L := fun c x => JI k c l l.length x i) (N := l.length) (fun x => decide ((l.getD x pd).2.1 = i)) (fun c=>by
   show EK k _ l l.length l.length i=_;unfold EK;simp) (fun c x hx=>by
   show EK k _ l l.length x i=_;unfold EK Vd;simp[qC,qE hx hl,aa hx]) hk
 unfold Of Ve;grind
theorem yS5 {n:Nat}{l:List zH}(hl:∀p∈l,yJ n p)(i:Nat):qG (fun x=> !decide ((l.getD x pd).2.1=i)) l.length 0=decide (zP (gN i) l+zP (gR i) l=0):=by
 have hN:=xj (g:=gN i) (l:=l) fun p hp=>(N2 (hl p hp) i).1
 have hR:=xj (g:=gR i) (l:=l) fun p hp=>(NX (hl p hp) i).1
 have e:zP (gN i) l+zP (gR i) l=zP (fun p:zH=>if p.2.1=(i:Int) then p.2.2.2.1 else 0) l:=by
  rw[←vCc];refine Ny fun p hp=>?_
  unfold gN gR;omega
 rw[e];have h:∀(l:List zH),(∀p∈l,yJ n p)→((∀p∈l,¬p.2.1=i)↔zP (fun p:zH=>if p.2.1=(i:Int) then p.2.2.2.1 else 0) l=0):=by
  intro l
  induction l with
  |nil=>intro _;simp[zP]
  |cons q l ih=>
   intro hm;have ih:=ih (by grind);have hq:=hm q (by simp);have h0:0≤zP (fun p:zH=>if p.2.1=i then p.2.2.2.1 else 0) l:=xj fun p hp=>by
    have:=(hm p (by grind)).a1;omega
   unfold zP;by_cases c:q.2.1=i
   ·rw[if_pos c];have:=hq.a1;grind
   simp_all
 have bo:(∀p∈l,¬p.2.1=i)↔qG (fun x=> !decide ((l.getD x pd).2.1=i)) l.length 0=true:=by
  rw[gg];constructor
  ·intro h j hj
   simpa using h _ (gh hj)
  ·intro h p hp;obtain⟨j,hj,rfl⟩:=List.getElem_of_mem hp;have:=h j hj
   simpa[List.getD,hj] using this
 simp_all
def EL (n JJ:Int):Bool:= !decide (JJ= -1)&&decide (n>JJ)
theorem yGc k n JJ:EM k n JJ=some (EL n JJ):=by
 unfold EM EL;grind
theorem vK2 k b c r s (h:-9223372036854775808≤r-s)(h':r<9223372036854775808)(hs:0≤s):xr k b c r s=some (jD r s):=by
 unfold xr jD vZ;rw[zO h (by omega),an];grind
def Bi (b p:EQ)(l:List zH)(i:Nat)(short:Bool)(q:zH):Bool:=
 decide (q.2.1=i)&&((decide (q.2.2.2.2.1=3)&&short)||EL (cell p i q.2.2.1.toNat+dS l i q.2.2.1.toNat) (cell b i q.2.2.1.toNat))
theorem Vf {k a b m p l}(hk:100<k)(hb:wS a b m p)(hl:wC a.length l){r2 r3 m4}(hm:Oc a.length l r2 r3 m4){i}(hi:i<a.length) bal cr res n0 (kJ:0≤res∧res≤2305843009213693952):
  Og k l i bal cr res r2 r3 m4 n0 a b m p=some (!qG (fun x=> !Bi b p l i (decide (n0<jD res (zP (gR i) l))) (l.getD x pd)) l.length 0):=by
 have nQ:=hl.2;have hR:=Be hl i;obtain ⟨x, h1, h2⟩ := xi (L := fun c x => JK k c l l.length x i bal cr res r2 r3 m4 n0 a b m p) (N := l.length) (fun x => Bi b p l i (decide (n0 < jD res (zP (gR i) l))) (l.getD x pd)) (fun c=>by
   show EN k _ l l.length l.length i bal cr res r2 r3 m4 n0 a b m p=_;unfold EN;simp) (fun c x hx=>by
   show EN k _ l l.length x i bal cr res r2 r3 m4 n0 a b m p=_;have bQ:yJ a.length (l.getD x pd):=hl.1 _ (by grind);unfold EN;simp only[qC,qE hx (by grind),qR,au,aa hx];generalize l.getD x (0,(0,(0,(0,(0,(0,0))))))=q at bQ⊢;obtain⟨id,f,t,am,cl,st,ti⟩:=q;obtain⟨f0,f1,t0,t1,ne,a1,a2,c1,c3⟩:=bQ;dsimp only at f0 f1 t0 t1 ne a1 a2 c1 c3⊢;obtain⟨t,rfl⟩:∃y:Nat,t=y:=⟨t.toNat,by omega⟩;have gH:t<a.length:=by omega
   unfold Vg Bi;cases hf:decide (f=(i:Int)) with
   |false=>simp
   |true=>
    have e1:(r3.getD i 0)=zP (gR i) l:=hm.spent i hi;have e2:(m4.getD i []).getD t 0=dS l i t:=hm.sent i hi t gH;have pY:=hb.nums.net i hi t gH;have hd:=EC hl i t;have e3:zA ((p.getD i []).getD t 0+dS l i t)=cell p i t+dS l i t:=zO (by show _≤cell p i t+dS l i t;omega) (by show cell p i t+dS l i t<_;omega);simp only[qC,hm.l3,hm.l4,hm.r4 i hi,hb.pl,hb.pr i hi,hb.bl,hb.br i hi,aa hi,aa gH,au,e1,e2,e3,vK2 k bal cr res (zP (gR i) l) (by omega) (by omega) hR.1,ae,yGc];cases decide (cl=3)<;>cases decide (n0<jD res (zP (gR i) l))<;>rfl) (n:=k) (by omega)
 unfold Og Vh;grind
theorem Vi {α g}:∀{l:List α},(∀p∈l,0≤g p)→(0<zP g l↔∃p∈l,0<g p)
 |[],_=>by simp[zP]
 |q::l,h=>by
  have ih:=Vi (g:=g) (l:=l) (by grind);have h0:=xj (g:=g) (l:=l) (by grind);unfold zP;grind
theorem Oh {N p}:qG p N 0=false↔∃j,j<N∧p j=false:=by
 constructor
 ·apply Classical.byContradiction;intro hn;have:qG p N 0=true:=gg.2 (by grind);simp_all
 ·rintro⟨j,hj,hp⟩
  cases h:qG p N 0 with
  |false=>rfl
  |true=>rw[gg.1 h j hj] at hp;cases hp
theorem vIg {a:List qY}{b p l}(hl:wC a.length l){i}(hi:i<a.length) short:
  (!qG (fun x=> !Bi b p l i short (l.getD x pd)) l.length 0)=(!qG (uw b p l i) a.length 0||(decide (zP (gN i) l>0)&&short)):=by
 have hN:=Vi (g:=gN i) (l:=l) fun p hp=>(N2 (hl.1 p hp) i).1
 have hS:=fun j=>Vi (g:=gS i j) (l:=l) fun p hp=>(U5 (hl.1 p hp) i j).1
 rw[Bool.eq_iff_iff];simp only[Bool.not_eq_true',Bool.or_eq_true,bb,aX];rw[Oh,Oh];constructor
 ·rintro⟨x,hx,hb⟩
  have bQ:=hl.1 _ (gh (d:=pd) hx);have bD:=gh (d:=pd) hx;generalize l.getD x pd=q at hb bQ bD;simp only[Bi,Bool.not_eq_false',bb,Bool.or_eq_true,aX] at hb;obtain⟨hf,hb⟩:=hb;rcases hb with⟨hc,hs⟩|ho
  ·refine .inr ⟨hN.2 ⟨q,bD,?_⟩,hs⟩;unfold gN;rw[if_pos ⟨hf,hc⟩];have:=bQ.a1;omega
  ·have h1:=bQ.t0;have h2:=bQ.t1;refine .inl ⟨q.2.2.1.toNat,by omega,?_⟩;unfold uw;have lN:zP (gS i q.2.2.1.toNat) l>0:=(hS _).2 ⟨q,bD,by
    unfold gS;rw[if_pos (by grind)];have:=bQ.a1;omega⟩
   rw[aa lN];unfold EL at ho;simp_all
 ·rintro(⟨j,hj,hb⟩|⟨hp,hs⟩)
  ·simp only[uw,Bool.not_eq_false',bb,aX] at hb;obtain⟨lN,ho⟩:=hb;obtain⟨q,hq,hg⟩:=(hS j).1 lN;obtain⟨x,hx,rfl⟩:=List.getElem_of_mem hq;refine⟨x,hx,?_⟩;have e:l.getD x pd=l[x]:=by simp[List.getD,hx]
   rw[e];unfold gS at hg;by_cases c:l[x].2.1=(i:Int)∧l[x].2.2.1=(j:Int)
   ·unfold Bi EL;simp_all
   ·rw[if_neg c] at hg;omega
  ·obtain⟨q,hq,hg⟩:=hN.1 hp;obtain⟨x,hx,rfl⟩:=List.getElem_of_mem hq;refine⟨x,hx,?_⟩;have e:l.getD x pd=l[x]:=by simp[List.getD,hx]
   rw[e];unfold gN at hg;by_cases c:l[x].2.1=(i:Int)∧l[x].2.2.2.2.1=3
   ·unfold Bi;simp_all
   ·rw[if_neg c] at hg;omega
theorem vLp {k a b m p l}(hk:100<k)(hb:wS a b m p)(hl:wC a.length l){r2 r3 m4}(hm:Oc a.length l r2 r3 m4){i}(hi:i<a.length)(hs:decide (zP (gN i) l+zP (gR i) l=0)=false):
  Oi k r2 r3 m4 a b m p i l=some (gI a b m p l i):=by
 have h6:=hb.n6;have nQ:=hl.2;have hB:=U6 hl i;have hx:=hb.acct i hi;simp only[eM,bb,aX] at hx;have Bg:-4611686018427387904<(a.getD i ad).1∧(a.getD i ad).1<4611686018427387904∧0≤(a.getD i ad).2.1∧(a.getD i ad).2.1≤2305843009213693952∧0≤(a.getD i ad).2.2∧(a.getD i ad).2.2≤2305843009213693952:=by grind
 have pY:=xk (N7 hb hi) a.length;have e1:r2.getD i 0=zP (gB i) l:=hm.more i hi;unfold Oi;simp only[qC,aa hi,ak,au,hm.l2,hm.l4,e1,hm.r4 i hi];rw[Vb (by omega) (by omega) hi hb.pl (hb.pr i hi) (N7 hb hi)];rw[zO (x:=(a.getD i ad).1+(a.getD i ad).2.1) (by omega) (by omega),zO (x:=(a.getD i ad).1+(a.getD i ad).2.1+zP (gB i) l) (by omega) (by omega)];unfold gI;rw[hs];cases hn:decide ((a.getD i ad).1+(a.getD i ad).2.1+zP (gB i) l<0) with
 |true=>simp
 |false=>
  obtain ⟨s, q1, q2⟩ := vK (L := fun c j (s : Int) => Bj k c l s (m4.getD i []) a.length j r2 r3 m4 a b m p i (a.getD i ad).1 (a.getD i ad).2.1 (a.getD i ad).2.2 ((a.getD i ad).1 + (a.getD i ad).2.1 + zP (gB i) l)) (N := a.length) (fun s => (l, s, r2, r3, m4, a, b, m, p, (i : Int), (a.getD i ad).1, (a.getD i ad).2.1, (a.getD i ad).2.2, (a.getD i ad).1 + (a.getD i ad).2.1 + zP (gB i) l)) (fun j s => s = qH (cell p i) a.length + qH (dS l i) j) (fun c s hs=>by
    show EO k _ l s (m4.getD i []) a.length a.length r2 r3 m4 a b m p i (a.getD i ad).1 (a.getD i ad).2.1 (a.getD i ad).2.2 ((a.getD i ad).1+(a.getD i ad).2.1+zP (gB i) l)=_;unfold EO;simp) (fun c j s hj hs=>by
    refine⟨qH (cell p i) a.length+qH (dS l i) (j+1),?_,rfl⟩;show EO k _ l s (m4.getD i []) a.length j r2 r3 m4 a b m p i (a.getD i ad).1 (a.getD i ad).2.1 (a.getD i ad).2.2 ((a.getD i ad).1+(a.getD i ad).2.1+zP (gB i) l)=_;have e2:(m4.getD i []).getD j 0=dS l i j:=hm.sent i hi j hj;have Dg:=xk (fun j=>EC hl i j) j;have DD:=EC hl i j;unfold EO;simp only[qC,qE hj (by grind),qR,au,hm.r4 i hi,aa hj,ak,e2];rw[hs,zO (x:=qH (cell p i) a.length+qH (dS l i) j+dS l i j) (by omega) (by omega),Int.add_assoc];rfl) (n:=k) (s:=qH (cell p i) a.length) (by omega) (by show _=_+0;omega)
  have q1':Bj k k l (qH (cell p i) a.length) (m4.getD i []) a.length 0 r2 r3 m4 a b m p i (a.getD i ad).1 (a.getD i ad).2.1 (a.getD i ad).2.2 ((a.getD i ad).1+(a.getD i ad).2.1+zP (gB i) l)=_:=q1;simp only[an,ae];rw[show Bj k k l (qH (cell p i) a.length) (m4.getD i []) a.length 0 r2 r3 m4 a b m p i (a.getD i (0,(0,0))).1 (a.getD i (0,(0,0))).2.1 (a.getD i (0,(0,0))).2.2 ((a.getD i ad).1+(a.getD i ad).2.1+zP (gB i) l)=_ from q1'];simp only[ae,qC,hb.ml,aa hi,ak,au,yGc];rw[Vf hk hb hl hm hi _ _ _ _ (by grind),vIg hl hi,q2,vAh hl.1 i hi];have en:qH (cell p i) a.length+-zP (gB i) l=qH (cell p i) a.length-zP (gB i) l:=by omega
  rw[en];unfold EL;grind
theorem yMo f i:((List.range (i+1)).filter f).map (fun(x:Nat)=>(x:Int))=(((List.range i).filter f).map fun(x:Nat)=>(x:Int))++(bif f i then[(i:Int)] else[]):=by
 rw[List.range_succ,List.filter_append,List.map_append];grind
theorem Vj {k a b m p l}(hk:100<k)(hb:wS a b m p)(hl:wC a.length l):Bk k a b m p l=some (uz a b m p l):=by
 have h6:=hb.n6;have nQ:=hl.2;obtain⟨r2,r3,m4,g1,hm⟩:=vCv hk h6 hl;obtain ⟨r, h1, h2⟩ := vK (L := fun c i (r : AC) => EP k c l a.length i a b m p r2 r3 m4 r) (N := a.length) (fun r => r) (fun i r => r = ((List.range i).filter fun i => gI a b m p l i).map fun (x : Nat) => (x : Int)) (fun c r hr=>by
   show ER k _ l a.length a.length a b m p r2 r3 m4 r=_;unfold ER;simp) (fun c i r hi hr=>by
   have hle:r.length≤i:=by
    grind
   have aO:zQ (r.length+1) 8=true:=qK (by omega) (by omega);refine⟨_,?_,rfl⟩;show ER k _ l a.length i a b m p r2 r3 m4 r=_;unfold ER;simp only[qE hi (by grind),vVo (show l.length<k by omega) (by omega)];rw[yS5 hl.1,yMo,←hr];cases hz:decide (zP (gN i) l+zP (gR i) l=0) with
   |true=>
    have:gI a b m p l i=false:=by unfold gI;simp_all
    simp_all
   |false=>
    rw[vLp hk hb hl hm hi hz];grind) (n:=k) (s:=[]) (by omega) rfl
 unfold Bk;rw[g1];simp;have ga:EP k k l a.length 0 a b m p r2 r3 m4 []=some r:=h1;rw[ga,h2];rfl
theorem yFy {k a b m p l}(hk:100<k)(hb:wS a b m p)(hl:wC a.length l):ux k a b m p l=some (uz a b m p l):=by
 have h6:=hb.n6;obtain ⟨r, h1, h2⟩ := vK (L := fun c i (r : AC) => uy k c l i a b m p r) (N := a.length) (fun r => r) (fun i r => r = ((List.range i).filter fun i => gI a b m p l i).map fun (x : Nat) => (x : Int)) (fun c r hr=>by
   show sK k _ l a.length a b m p r=_;unfold sK;simp) (fun c i r hi hr=>by
   have hle:r.length≤i:=by
    grind
   have aO:zQ (r.length+1) 8=true:=qK (by omega) (by omega);refine⟨_,?_,rfl⟩;show sK k _ l i a b m p r=_;unfold sK;simp[qE hi (by grind),yFo hk hb hl hi];rw[yMo,←hr];grind) (s:=[]) (show a.length<k by omega) rfl
 unfold ux;have ga:uy k k l 0 a b m p []=some r:=h1;rw[ga,h2];rfl
theorem vXr {a b m p l}:decide (((uz a b m p l).length:Int)=0)=qG (fun i=> !gI a b m p l i) a.length 0:=by
 unfold uz;cases h:qG (fun i=> !gI a b m p l i) a.length 0 with
 |true=>
  rw[gg] at h;simp_all
 |false=>
  apply ab;intro h0;obtain⟨j,hj,hs⟩:=Oh.1 h;simp_all
theorem Vk {k}{l:List zH}(hk:l.length<k)(hl:l.length<9223372036854775808)(a:List qY) b m p:Oj k l a b m p=some (!nP a.length l):=by
 obtain ⟨x, h1, h2⟩ := xi (L := fun c i => JL k c l l.length i a b m p) (N := l.length) (fun i => !pX a.length (l.getD i pd)) (fun c=>by
  show ES k _ l l.length l.length a b m p=_;unfold ES;simp) (fun c i hi=>by
  show ES k _ l l.length i a b m p=_;unfold ES Vl;simp[qC,qE hi hl,aa hi,NV]) hk
 unfold Oj Vm;unfold nP;grind
theorem vQs {k a b m p}{l:List zH}(hk:100<k)(hb:wS a b m p)(hl:l.length≤80):Bl k a b m p l=some (xw a b m p l):=by
 unfold Bl xw;have e:decide ((l.length:Int)≤64)=decide (l.length≤64):=by
  grind
 rw[e,Vk (by omega) (by omega)];cases bP:decide (l.length≤64) with
 |false=>simp
 |true=>
  cases hm:nP a.length l with
  |false=>rfl
  |true=>
   have hr:wC a.length l:=⟨Bd.1 hm,by grind⟩;simp only[ak,ae,aB,bZ,Vj hk hb hr,vXr,Bool.true_and]
def qL (l:List zH):Prop:=List.Pairwise (fun p q=>p.1≠q.1) l
theorem qL.filter {l}(h:qL l) f:qL (l.filter f):=List.Pairwise.filter f h
theorem Bm {α:Type} f (l:List α) i d (h:i<l.length):(l.take (i+1)).filter f=(l.take i).filter f++(bif f (l.getD i d) then[l.getD i d] else[]):=by
 rw[←fG l i d h,List.filter_append];rfl
theorem JM {α X:Type}(d:α){l:List α}{L:Nat→Int→List α→Option X}(f:α→Bool)(e:List α→X)(bM:∀n s,L (n+1) (l.length:Int) s=some (e s))
  (aL:∀n i s,i<l.length→s.length≤i→L (n+1) (i:Int) s=L n ((i+1:Nat):Int) (bif f (l.getD i d) then s++[l.getD i d] else s)) {n:Nat} (hn:l.length<n):
  L n 0 []=some (e (l.filter f)):=by
 obtain ⟨s', h1, h2⟩ := vK (L := L) (N := l.length) e (fun i s => s = (l.take i).filter f) (fun n s _ => bM n s) (fun n i s hi hs=>by
  refine⟨_,aL n i s hi ?_,?_⟩
  ·subst hs;have:=List.length_filter_le f (l.take i);rw[List.length_take] at this;omega
  ·subst hs;rw[Bm f l i d hi];cases f (l.getD i d)<;>simp) (s:=[]) hn (by simp)
 rw[h1,h2,List.take_length]
def qQ (l:List zH):Prop:=l.length≤1000
theorem nR {n}(h:n≤1000):zQ (n+1) 56=true:=qK (by omega) (by omega)
def j6 (t:Int)(p:zH):Bool:=bif decide (t≥p.2.2.2.2.2.1) then decide (t≤p.2.2.2.2.2.2) else false
theorem Vn {k l}(hk:l.length<k)(hl:qQ l) t:ET k l t=some (l.filter (j6 t)):=by
 unfold ET Vo;have := JM pd (L := fun n i s => JN k n l l.length i t s) (j6 t) id (fun n s=>by
  show EU k _ l l.length l.length t s=_;unfold EU;simp) (fun n i s hi hs=>by
  show EU k _ l l.length i t s=_;unfold EU Vp Vq;unfold qQ at hl;simp[qC,qE hi (by grind),nR (show s.length≤1000 by omega)];unfold j6;grind) hk
 simp_all
theorem Vr {k l}(hk:l.length<k)(hl:qQ l) t:EV k l t=some (l.filter (j6 t)):=by
 unfold EV;have := JM pd (L := fun n i s => JO k n l t i s) (j6 t) id (fun n s=>by
  show EW k _ l t l.length s=_;unfold EW;simp) (fun n i s hi hs=>by
  show EW k _ l t i s=_;unfold EW Vs;unfold qQ at hl;simp[qC,qE hi (by grind),nR (show s.length≤1000 by omega)];unfold j6;grind) hk
 simp_all
def wY (f:Int)(p:zH):Bool:=decide (p.2.1=f)
theorem Ol {k l}(hk:l.length<k)(hl:qQ l) f:uA k l f=some (l.filter (wY f)):=by
 unfold uA;have := JM pd (L := fun n i s => JP k n l f i s) (wY f) id (fun n s=>by
  show EX k _ l f l.length s=_;unfold EX;simp) (fun n i s hi hs=>by
  show EX k _ l f i s=_;unfold EX;unfold qQ at hl;simp[qC,qE hi (by grind),nR (show s.length≤1000 by omega)];unfold wY;grind) hk
 simp_all
def Om (r:List zH)(p:zH):Bool:=qG (fun x=>decide (((r.filter (wY p.2.1)).getD x pd).2.2.2.2.1=3)) (r.filter (wY p.2.1)).length 0
def On (r:List zH)(p:zH):Bool:=decide ((r.filter (wY p.2.1)).getD 0 pd=p)
def sL (r:List zH)(p:zH):Bool:=On r p||Om r p
def vR (l:List zH)(t:Int):List zH:=(l.filter (j6 t)).filter (sL (l.filter (j6 t)))
theorem eq7 (p q:zH):((decide (p.1=q.1))&&((decide (p.2.1=q.2.1))&&((decide (p.2.2.1=q.2.2.1))&&((decide (p.2.2.2.1=q.2.2.2.1))&&((decide (p.2.2.2.2.1=q.2.2.2.2.1))&&((decide (p.2.2.2.2.2.1=q.2.2.2.2.2.1))&&(decide (p.2.2.2.2.2.2=q.2.2.2.2.2.2))))))))=decide (p=q):=by
 grind
theorem Vt {k n:Nat}(s7:Int)(r0 r1 r2:List zH)(hk:r2.length<n)(hl:qQ r2):
  EY k n s7 true 0 r0 r1 r2=some (s7,qG (fun x=>decide ((r2.getD x pd).2.2.2.2.1=3)) r2.length 0,r0,r1,r2):=by
 obtain ⟨s', h1, h2⟩ := vK (L := fun n i s => EY k n s7 s i r0 r1 r2) (N := r2.length) (fun s => (s7, s, r0, r1, r2)) (fun i s => s = qG (fun x => decide ((r2.getD x pd).2.2.2.2.1 = 3)) i 0) (fun n s _=>by
  show EZ k _ s7 s r2.length r0 r1 r2=_;unfold EZ;simp only [qR, ab (Nat.lt_irrefl _), an]) (fun n i s hi hs=>by
  refine⟨_,?_,rfl⟩;show EZ k _ s7 s i r0 r1 r2=_;unfold EZ;unfold qQ at hl;simp only[qC,qE hi (show r2.length<9223372036854775808 by omega),qR,au,aa hi,ak];have e:qG (fun x=>decide ((r2.getD x pd).2.2.2.2.1=3)) (i+1) 0=(s&&decide ((r2.getD i pd).2.2.2.2.1=3)):=by
   rw[Bool.eq_iff_iff,hs];simp only[gg,bb,aX];constructor
   ·intro h;exact⟨fun j hj=>h j (by omega),h i (by omega)⟩
   ·rintro⟨h1,h2⟩ j hj
    by_cases c:j=i
    ·subst c;exact h2
    ·exact h1 j (by omega)
  rw[e];cases s<;>rfl) (s:=true) hk rfl
 exact h1.trans (by rw[h2])
theorem yIw {k l}(hk:l.length<k)(hl:qQ l) t:JQ k l t=some (vR l t):=by
 unfold JQ;rw[Vr hk hl];unfold vR;have dM:(l.filter (j6 t)).length≤l.length:=by grind
 generalize l.filter (j6 t)=r at dM;unfold qQ at hl;have := JM pd (L := fun n i s => JR k n i r s) (l := r) (sL r) id (fun n s=>by
  show E0 k _ r.length r s=_;unfold E0;simp) (fun n i s hi hs=>by
  show E0 k _ i r s=_;unfold E0;have wg:(r.filter (wY (r.getD i pd).2.1)).length≤r.length:=by grind
  have tL:0<(r.filter (wY (r.getD i pd).2.1)).length:=by
   apply List.length_pos_of_mem (a:=r.getD i pd);rw[List.mem_filter];exact⟨gh hi,by simp[wY]⟩
  have Vu:=Ol (k:=k) (l:=r) (by omega) (show r.length≤1000 by omega) (r.getD i pd).2.1;have b0:∀n:Nat,zB 0 n=decide (0<n):=fun n=>qC 0 n
  have e7:=eq7 ((r.filter (wY (r.getD i pd).2.1)).getD 0 pd) (r.getD i pd);simp only[au];rw[Vu];simp only[ae];rw[Vt ((i:Nat):Int) r s _ (by omega) (show _≤1000 by omega)];simp[b0,qC,qE hi (by grind),nR (show s.length≤1000 by omega)];unfold sL On Om;grind) (show r.length<k by omega)
 simp_all
def Bn (f:Int)(q:zH):Bool:=decide (q.2.1=f)&& !decide (q.2.2.2.2.1=3)
theorem vKe {k}{l:List zH}(hk:l.length<k)(hl:l.length<9223372036854775808) i f t a c s e:
  Oo k l i f t a c s e=some (!qG (fun x=> !Bn f (l.getD x pd)) l.length 0):=by
 obtain ⟨x, h1, h2⟩ := xi (L := fun n i' => JS k n l l.length i' i f t a c s e) (N := l.length) (fun x => Bn f (l.getD x pd)) (fun n=>by
  show E1 k _ l l.length l.length i f t a c s e=_;unfold E1;simp) (fun n j hj=>by
  show E1 k _ l l.length j i f t a c s e=_;unfold E1 Vv;simp[qC,qE hj hl];unfold Bn;grind) hk
 unfold Oo Vw;grind
theorem Vx (r:List zH)(p:zH):Om r p=true↔∀q∈r,q.2.1=p.2.1→q.2.2.2.2.1=3:=by
 unfold Om;rw[gg];constructor
 ·intro h q hq he;have hm:q∈r.filter (wY p.2.1):=List.mem_filter.2 ⟨hq,by simp[wY,he]⟩;obtain⟨i,hi,e⟩:=List.getElem_of_mem hm;have:=h i hi;rw[List.getD_eq_getElem?_getD,List.getElem?_eq_getElem hi,e] at this
  simpa using this
 ·intro h j hj;have hm:=gh (d:=pd) hj;rw[List.mem_filter] at hm;have:=h _ hm.1 (by simpa[wY] using hm.2)
  simpa using this
theorem vEl (r:List zH)(f:Int):qG (fun x=> !Bn f (r.getD x pd)) r.length 0=true↔∀q∈r,q.2.1=f→q.2.2.2.2.1=3:=by
 rw[gg];constructor
 ·intro h q hq he;obtain⟨i,hi,e⟩:=List.getElem_of_mem hq;have:=h i hi;rw[List.getD_eq_getElem?_getD,List.getElem?_eq_getElem hi,e] at this
  simpa[Bn,he] using this
 ·intro h j hj;have:=h _ (gh (d:=pd) hj);simp only[Bn,Bool.not_eq_true',Bool.and_eq_false_iff,Bool.not_eq_false',aX,decide_eq_false_iff_not];by_cases c:(r.getD j pd).2.1=f
  ·exact .inr (this c)
  ·exact .inl c
theorem qL.split {r}(h:qL r){i}(hi:i<r.length):∀q∈r.take i,q.1≠(r.getD i pd).1:=by
 intro q hq;have e:r.take (i+1)=r.take i++[r.getD i pd]:=(fG r i pd hi).symm;have hs:qL (r.take (i+1)):=List.Pairwise.sublist (by grind) h;rw[e] at hs;exact(List.pairwise_append.1 hs).2.2 q hq _ (by simp)
theorem Oq {α:Type} r i (d:α)(hi:i<r.length):r=r.take i++r.getD i d::r.drop (i+1):=by
 simp_all
theorem vR0 {r}(h:qL r){i}(hi:i<r.length):On r (r.getD i pd)= !(r.take i).any (wY (r.getD i pd).2.1):=by
 unfold On;have e:∀f,wY f (r.getD i pd)=true→r.filter (wY f)=(r.take i).filter (wY f)++r.getD i pd::(r.drop (i+1)).filter (wY f):=by
  intro f hf;have:=congrArg (List.filter (wY f)) (Oq r i pd hi);grind
 have e:=e (r.getD i pd).2.1 (by simp[wY]);rw[e];cases ha:(r.take i).any (wY (r.getD i pd).2.1) with
 |false=>
  have:(r.take i).filter (wY (r.getD i pd).2.1)=[]:=by
   simp_all
  grind
 |true=>
  cases hf:(r.take i).filter (wY (r.getD i pd).2.1) with
  |nil=>
   rw[List.filter_eq_nil_iff] at hf;grind
  |cons q l=>
   have hq:q∈r.take i:=(List.mem_filter.1 (hf▸List.mem_cons_self ..:q∈(r.take i).filter _)).1;have:=h.split hi q hq;grind
theorem vCm {r}(h:qL r){i}(hi:i<r.length):
  sL r (r.getD i pd)=(!(r.take i).any (wY (r.getD i pd).2.1)||(decide ((r.getD i pd).2.2.2.2.1=3)&&qG (fun x=> !Bn (r.getD i pd).2.1 (r.getD x pd)) r.length 0)):=by
 unfold sL;rw[vR0 h hi]
 congr 1
 rw[Bool.eq_iff_iff,Vx,bb,vEl,aX];grind
theorem lookup_cons (f g:Int)(l:List (Int×Bool)):(List.lookup f ((g,true)::l)).getD false=(decide (f=g)||(List.lookup f l).getD false):=by
 rw[List.lookup_cons];by_cases c:f=g
 ·subst c;simp
 ·have:(f==g)=false:=by simpa using c
  rw[this];simp[c]
theorem yA8 {k:Nat}{l:List zH}(hk:l.length<k)(hl:qQ l)(hd:qL l)(t:Int):JT k l t=some (vR l t):=by
 unfold JT;rw[Vn hk hl];simp only[ae];unfold vR;have dM:(l.filter (j6 t)).length≤l.length:=List.length_filter_le _ _;have wi:=hd.filter (j6 t);generalize l.filter (j6 t)=r at dM wi;unfold qQ at hl;unfold Vy;obtain ⟨s', h1, h2, h3⟩ := vK (L := fun n i (s : List (Int × Bool) × List zH) => E2 k n r r.length i s.1 r s.2) (N := r.length) (fun s => (s.1, r, s.2)) (fun i s => (∀ f, (List.lookup f s.1).getD false = (r.take i).any (wY f)) ∧ s.2 = (r.take i).filter (sL r)) (fun n s _=>by
  show E3 k _ r r.length r.length s.1 r s.2=_;unfold E3;simp only [qR, ab (Nat.lt_irrefl _), an]) (fun n i s hi hs=>by
  refine⟨(((r.getD i pd).2.1,true)::s.1,bif sL r (r.getD i pd) then s.2++[r.getD i pd] else s.2),?_,?_,?_⟩
  ·show E3 k _ r r.length i s.1 r s.2=_;unfold E3 Vz;have hlen:s.2.length≤i:=by
    rw[hs.2];have:=List.length_filter_le (sL r) (r.take i);rw[List.length_take] at this;omega
   have hc:=vKe (k:=k) (l:=r) (by omega) (by omega) (r.getD i pd).1 (r.getD i pd).2.1 (r.getD i pd).2.2.1 (r.getD i pd).2.2.2.1 (r.getD i pd).2.2.2.2.1 (r.getD i pd).2.2.2.2.2.1 (r.getD i pd).2.2.2.2.2.2;have uh:=hs.1 (r.getD i pd).2.1;have hp:=vCm wi hi;simp only[pd] at hc uh hp⊢;simp only[qC,qE hi (show r.length<9223372036854775808 by omega),qR,au,aa hi,ak,nR (show s.2.length≤1000 by omega)];rw[hc,uh,hp];generalize (r.take i).any _=x;generalize qG _ _ 0=y;generalize decide ((r.getD i (0,(0,(0,(0,(0,(0,0))))))).2.2.2.2.1=3)=z;cases x<;>cases y<;>cases z<;>rfl
  ·intro f;rw[lookup_cons,hs.1 f,←fG r i pd hi,List.any_append,Bool.or_comm]
   congr 1
   simp only[List.any_cons,List.any_nil,Bool.or_false,wY];rw[Bool.eq_iff_iff];simp only[aX];exact eq_comm
  ·show(bif sL r (r.getD i pd) then s.2++[r.getD i pd] else s.2)=_;rw[hs.2,Bm _ _ _ pd hi];cases sL r (r.getD i pd)<;>simp) (s:=([],[])) (show r.length<k by omega) ⟨fun f=>by simp,by simp⟩
 have ga:E2 k k r r.length 0 [] r []=some (s'.1,r,s'.2):=h1;rw[ga,h3,List.take_length];rfl
def xx (p:Nat→Bool):Nat→Nat→Option Nat
 |0,_=>none
 |c+1,i=>bif p i then some i else xx p c (i+1)
def VA:Option Nat→Unit⊕Int
 |some x=>.inr (x:Int)
 |none=>.inl ()
theorem VB {L:Nat→Int→Option (Unit⊕Int)}{N:Nat} bad (bM:∀n,L (n+1) (N:Int)=some (.inl ()))
  (aL:∀n i,i<N→L (n+1) (i:Int)=bif bad i then some (.inr (i:Int)) else L n ((i+1:Nat):Int)):
  ∀c i n,i+c=N→c<n→L n (i:Int)=some (VA (xx bad c i))
 |0,i,n,h,hn=>by
  obtain⟨n,rfl⟩:∃m,n=m+1:=⟨n-1,by omega⟩;have:i=N:=by omega
  subst this;exact bM n
 |c+1,i,n,h,hn=>by
  obtain⟨n,rfl⟩:∃m,n=m+1:=⟨n-1,by omega⟩;rw[aL n i (by omega)];unfold xx;cases hb:bad i with
  |true=>rfl
  |false=>
   exact VB bad bM aL c (i+1) n (by omega) (by omega)
theorem yWx {p}:∀{c i x},xx p c i=some x→i≤x∧x<i+c∧p x=true∧∀j,i≤j→j<x→p j=false
 |c+1,i,x,h=>by
  unfold xx at h;cases hp:p i with
  |true=>
   grind
  |false=>
   rw[hp] at h;obtain⟨h1,h2,h3,h4⟩:=yWx h;grind
theorem yMh {p}:∀{c i},xx p c i=none→∀j,i≤j→j<i+c→p j=false
 |0,_,_=>by grind
 |c+1,i,h=>by
  unfold xx at h;cases hp:p i with
  |true=>
   simp_all
  |false=>
   rw[hp] at h;intro j j1 j2;by_cases e:j=i
   ·simp_all
   ·exact yMh h j (by omega) (by omega)
def vV (l:List zH)(id:Int):Option Nat:=xx (fun x=>decide ((l.getD x pd).1=id)) l.length 0
def j7 (l:List zH)(id:Int):Int:=match vV l id with|some x=>(x:Int)|none=>-1
theorem kO {l id x}(h:vV l id=some x):x<l.length∧(l.getD x pd).1=id:=by
 obtain⟨_,h2,h3,_⟩:=yWx h;simp_all
theorem vP4 {l id}(h:vV l id=none):∀p∈l,p.1≠id:=by
 intro p hp e;obtain⟨i,hi,e'⟩:=List.getElem_of_mem hp;have:=yMh h i (by omega) (by omega);simp_all
theorem Ot {l p}(h:p∈l):∃x,vV l p.1=some x:=by
 cases e:vV l p.1 with
 |some x=>simp
 |none=>exact absurd rfl (vP4 e p h)
theorem Ou {k}{l:List zH}(hk:l.length<k)(hl:l.length<9223372036854775808) id:mW k l id=some (j7 l id):=by
 have := VB (L := fun n i => E4 k n l id i) (N := l.length) (fun x => decide ((l.getD x pd).1 = id)) (fun n=>by
  show E5 k _ l id l.length=_;unfold E5;simp) (fun n j hj=>by
  show E5 k _ l id j=_;unfold E5;simp[qC,qE hj hl,aa hj]) l.length 0 k (by omega) hk
 have h1:E4 k k l id 0=some (VA (vV l id)):=this;unfold mW j7;rw[h1];cases vV l id<;>rfl
theorem Bo {k}{l:List zH}(hk:l.length<k)(hl:l.length<9223372036854775808) id:nS k l id=some (j7 l id):=by
 have := VB (L := fun n i => E6 k n l l.length i id) (N := l.length) (fun x => decide ((l.getD x pd).1 = id)) (fun n=>by
  show E7 k _ l l.length l.length id=_;unfold E7;simp) (fun n j hj=>by
  show E7 k _ l l.length j id=_;unfold E7 VC;simp only[qC,qE hj hl,qR,aa hj];rfl) l.length 0 k (by omega) hk
 have h1:E6 k k l l.length 0 id=some (VA (vV l id)):=this;unfold nS VD j7;rw[h1];cases vV l id<;>rfl
def yG (l:List zH)(x:Nat):List zH:=l.take x++l.drop (x+1)
theorem nT {l x}(h:x<l.length):(yG l x).length=l.length-1:=by
 unfold yG;grind
theorem uB l x:List.Sublist (yG l x) l:=by
 unfold yG
 conv=>rhs;rw[←List.take_append_drop x l]
 grind
theorem qL.cut {l}(h:qL l) x:qL (yG l x):=List.Pairwise.sublist (uB l x) h
theorem yQ1 k {l}{x:Nat}(hx:x<l.length)(hl:qQ l):JU k l x ((x+1:Nat):Int)=some (yG l x):=by
 unfold JU;have c1:(decide ((0:Int)≤(x:Int)))=true:=by simp
 have c2:decide ((x:Int)≤((x+1:Nat):Int))=true:=aa (by omega);have c3:decide (((x+1:Nat):Int)≤(l.length:Int))=true:=aa (by omega);have c4:decide ((l.length:Int)≤(l.length:Int))=true:=by simp
 have c5:decide ((x:Int)=((x+1:Nat):Int))=false:=ab (by omega);have c6:decide ((x:Int)≤(l.length:Int))=true:=aa (by omega);have c7:decide ((0:Int)≤((x+1:Nat):Int))=true:=aa (by omega);have c8:Nat.ble (x-0) (0+(x+1))=true:=by simp
 simp only[au,c1,c2,c3,c4,c5,c6,c7,c8,an];have e0:x-0+(l.length-(x+1))=l.length-1:=by omega
 have e1:List.take (x-0) l++qS l (0+(x+1)) (l.length-(x+1))=yG l x:=by
  unfold qS yG;rw[Nat.sub_zero,Nat.zero_add]
  congr 1
  rw[List.take_of_length_le];rw[List.length_drop];exact Nat.le_refl _
 have e2:(qS (yG l x++List.drop (l.length-1) l) 0 (l.length-1))=yG l x:=by
  unfold qS;rw[List.drop_zero,List.take_append_of_le_length (by rw[nT hx];exact Nat.le_refl _),List.take_of_length_le (by rw[nT hx];exact Nat.le_refl _)]
 have e3:(yG l x++List.drop (l.length-1) l).length=l.length:=by
  rw[List.length_append,List.length_drop,nT hx];omega
 have c9:decide ((0:Int)≤((yG l x).length:Int))=true:=by simp
 have Ov:decide (((yG l x).length:Int)≤(l.length:Int))=true:=by grind
 have Bp:decide ((l.length:Int)≤((l.length-0:Nat):Int))=true:=by simp
 have e4:List.take (0+(yG l x).length) (yG l x++List.drop (l.length-1) l)=yG l x:=by
  rw[Nat.zero_add,List.take_append_of_le_length (Nat.le_refl _),List.take_of_length_le (Nat.le_refl _)]
 simp only[e0,e1,e2,e3,c9,Ov,Bp,e4,Bool.and_true,ak];rw[List.append_assoc,List.take_append_of_le_length (by rw[nT hx];exact Nat.le_refl _),List.take_of_length_le (by rw[nT hx];exact Nat.le_refl _)]
def ij (l:List zH)(id:Int):List zH×Int×Int×Int×Int×Int×Int×Int×Int:=match vV l id with
 |some x=>(yG l x,(l.getD x pd).1,(l.getD x pd).2.1,(l.getD x pd).2.2.1,(l.getD x pd).2.2.2.1,(l.getD x pd).2.2.2.2.1,(l.getD x pd).2.2.2.2.2.1,(l.getD x pd).2.2.2.2.2.2,0)
 |none=>(l,0,0,0,0,0,0,0,4)
theorem Bq {k l}(hk:l.length<k)(hl:qQ l) id:qa k l id=some (ij l id):=by
 unfold qQ at hl;unfold qa;rw[Bo hk (by omega)];unfold j7 ij;cases hp:vV l id with
 |none=>rfl
 |some x=>
  have hx:=(kO hp).1;have e1:decide ((x:Int)<0)=false:=by simp
  have e2:xy k l=some l:=by
   unfold xy;rw[qK (by omega) (by omega)];rfl
  simp only[ae,e1,an,e2,qE hx (by grind),yQ1 k hx hl,qC,aa hx,ak,au]
def jF (q p:zH):Bool:=decide (q.2.1<p.2.1)||(decide (q.2.1=p.2.1)&&decide (q.2.2.2.2.1≤p.2.2.2.2.1))
def j8 (q p:zH):Bool:=decide (q.2.1<p.2.1)||(decide (q.2.1=p.2.1)&&decide (q.2.2.2.2.1<p.2.2.2.2.1))
theorem vWx n x y:Ow (n+3) [x,y]=some (if x=0 then y else x):=by
 have key:∀n:Nat,JV (n+3) (n+3) 0 [x,y] 2 0=bif !decide (x=0) then some (.inr x) else bif !decide (y=0) then some (.inr y) else some (.inl 0):=fun n=>rfl
 unfold Ow;grind
theorem vPx k a b:JW k a b=some (if a<b then-1 else if a>b then 1 else 0):=by
 unfold JW Ox;grind
theorem VE {k}(hk:3≤k) q p:∃x,E8 k q.1 q.2.1 q.2.2.1 q.2.2.2.1 q.2.2.2.2.1 q.2.2.2.2.2.1 q.2.2.2.2.2.2 p.1 p.2.1 p.2.2.1 p.2.2.2.1 p.2.2.2.2.1 p.2.2.2.2.2.1 p.2.2.2.2.2.2=some x∧decide (x≤0)=jF q p∧decide (x<0)=j8 q p:=by
 obtain⟨n,rfl⟩:∃n,k=n+3:=⟨k-3,by omega⟩;unfold E8;simp only[vPx,vWx];refine⟨_,rfl,?_,?_⟩
 ·unfold jF;grind
 ·unfold j8;grind
def JX (ok:Nat→Bool):Nat→Nat→Nat
 |0,i=>i
 |c+1,i=>bif ok i then JX ok c (i+1) else i
theorem E9 {X:Type}{L:Nat→Int→Option X}{N:Nat} ok (e:Nat→X)(bM:∀n,L (n+1) (N:Int)=some (e N))
  (aL:∀n i,i<N→L (n+1) (i:Int)=bif ok i then L n ((i+1:Nat):Int) else some (e i)):∀c i n,i+c=N→c<n→L n (i:Int)=some (e (JX ok c i))
 |0,i,n,h,hn=>by
  obtain⟨n,rfl⟩:∃m,n=m+1:=⟨n-1,by omega⟩;have:i=N:=by omega
  subst this;exact bM n
 |c+1,i,n,h,hn=>by
  obtain⟨n,rfl⟩:∃m,n=m+1:=⟨n-1,by omega⟩;rw[aL n i (by omega)];unfold JX;cases ok i with
  |false=>rfl
  |true=>exact E9 ok e bM aL c (i+1) n (by omega) (by omega)
theorem Fa {α:Type} f (l:List α) d:∀c i,i+c=l.length→JX (fun x=>f (l.getD x d)) c i=i+((l.drop i).takeWhile f).length
 |0,i,h=>by
  rw[List.drop_eq_nil_of_le (by omega)];rfl
 |c+1,i,h=>by
  rw[List.drop_eq_getElem_cons (by grind)];unfold JX;have e:l.getD i d=l[i]:=by grind
  rw[e];cases hf:f l[i] with
  |false=>rw[List.takeWhile_cons_of_neg (by simp[hf])];rfl
  |true=>
   rw[List.takeWhile_cons_of_pos hf,ak,Fa f l d c (i+1) (by omega),List.length_cons];omega
theorem nU {α:Type} f (l:List α):l.take (l.takeWhile f).length=l.takeWhile f∧l.drop (l.takeWhile f).length=l.dropWhile f:=by
 have e:=List.takeWhile_append_dropWhile (p:=f) (l:=l);grind
theorem Br {α:Type} f (l:List α):(l.takeWhile f).length≤l.length:=(List.takeWhile_sublist f).length_le
theorem VF {α b} f l (p:α)(hl:l.length≤1000)(hb:b≤1000):ins b l (((l.takeWhile f).length:Nat):Int) [p]=some (l.takeWhile f++(p::l.dropWhile f)):=by
 unfold ins;have h:=Br f l;have hm:(l.length+1)*b≤1001*1000:=Nat.mul_le_mul (by omega) hb;rw[aa (by simp),aa (by grind),qK (by grind) (by omega),au,(nU f l).1,(nU f l).2];rfl
def oX (l:List zH)(p:zH):List zH:=l.takeWhile (fun q=>jF q p)++(p::l.dropWhile (fun q=>jF q p))
def JY (l:List zH)(p:zH):List zH:=l.takeWhile (fun q=>j8 q p)++(p::l.dropWhile (fun q=>j8 q p))
theorem yFq {k l}(hl:qQ l):xy k l=some l:=by
 unfold qQ at hl;unfold xy;rw[qK (by omega) (by omega)];rfl
theorem vPl {k}(hk:3≤k) l (hl:qQ l)(bN:l.length<k)(p:zH):JZ k k l 0 p=some (l,(((l.takeWhile (fun q=>jF q p)).length:Nat):Int),p):=by
 unfold qQ at hl;have := E9 (L := fun n i => JZ k n l i p) (N := l.length) (fun x => jF (l.getD x pd) p) (fun i => (l, (i : Int), p)) (fun n=>by
  show Fc k _ l l.length p=_;unfold Fc;simp) (fun n i hi=>by
  show Fc k _ l i p=_;unfold Fc;obtain⟨x,h1,h2,_⟩:=VE hk (l.getD i pd) p;simp only[qC,qR,au,aa hi,h1,ae,h2,qE hi (by grind)];rfl) l.length 0 k (by omega) bN
 have e:((0:Nat):Int)=0:=rfl;rw[e] at this;rw[this,Fa (fun q=>jF q p) l pd l.length 0 (by omega),List.drop_zero,Nat.zero_add]
theorem VG {k l}(hk:3≤k)(bN:l.length<k)(hl:qQ l)(p:zH):
  xz k l p=some (bif (vV l p.1).isSome then(l,6) else bif decide (40≤l.length) then(l,3) else(oX l p,0)):=by
 have dM:=hl;unfold qQ at hl;unfold xz;rw[Bo bN (by omega)];unfold j7;cases hp:vV l p.1 with
 |some x=>
  rfl
 |none=>
  by_cases h:40≤l.length
  ·grind
  ·rw[ab h,ab (by grind)];simp[vPl hk l dM bN,yFq dM,Oy];rw[VF _ l p hl (by decide)];rfl
theorem VH {l x}(h:qQ l):qQ (yG l x):=by
 unfold qQ at*
 have:=(uB l x).length_le;omega
def J0 (l:List zH)(id:Int):List zH:=match vV l id with|some x=>yG l x|none=>l
theorem vA7 {l id}(hd:qL l):vV (J0 l id) id=none:=by
 cases h:vV (J0 l id) id with
 |none=>rfl
 |some y=>
  exfalso;obtain⟨h1,h2⟩:=kO h;unfold J0 at h h1 h2;cases hp:vV l id with
  |none=>
   rw[hp] at h;rw[hp] at h;cases h
  |some x=>
   rw[hp] at h1 h2;obtain⟨h3,h4⟩:=kO hp;have hm:=gh (d:=pd) h1;have e:=Oq l x pd h3;rw[e] at hd;have J1:=List.pairwise_append.1 hd;have VI:=List.pairwise_cons.1 J1.2.1;rcases List.mem_append.1 hm with hm|hm
   ·exact J1.2.2 _ hm _ (List.mem_cons_self ..) (h2.trans h4.symm)
   ·exact VI.1 _ hm (h4.trans h2.symm)
theorem vSl {k l}(hk:3≤k)(bN:l.length<k)(hl:qQ l)(hd:qL l)(h40:l.length≤40){id x}(hx:vV l id=some x) c:
  Fe k l id c=some (oX (yG l x) ((l.getD x pd).1,(l.getD x pd).2.1,(l.getD x pd).2.2.1,(l.getD x pd).2.2.2.1,c,(l.getD x pd).2.2.2.2.2.1,(l.getD x pd).2.2.2.2.2.2),0):=by
 have dp:=kO hx;have hw:=vA7 (id:=id) hd;unfold J0 at hw;have hlen:=nT dp.1;unfold Fe;rw[Bq bN hl];unfold ij;rw[hx];simp;rw[VG hk (by omega) (VH hl)];grind
theorem vMy {k l}(hk:3≤k)(bN:l.length<k)(hl:qQ l)(hd:qL l)(h40:l.length≤40){id x}(hx:vV l id=some x):
  Ff k l id=some (oX (yG l x) (l.getD x pd),0):=by
 have dp:=kO hx;have hw:=vA7 (id:=id) hd;unfold J0 at hw;have hlen:=nT dp.1;unfold Ff;rw[Bq bN hl];unfold ij;rw[hx];simp;rw[VG hk (by omega) (VH hl)];grind
theorem vZ7 {k}(hk:3≤k) l (hl:qQ l)(bN:l.length<k)(p:zH):J2 k k 0 l p=some ((((l.takeWhile (fun q=>j8 q p)).length:Nat):Int),l,p):=by
 unfold qQ at hl;have := E9 (L := fun n i => J2 k n i l p) (N := l.length) (fun x => j8 (l.getD x pd) p) (fun i => ((i : Int), l, p)) (fun n=>by
  show Fg k _ l.length l p=_;unfold Fg;simp) (fun n i hi=>by
  show Fg k _ i l p=_;unfold Fg;obtain⟨x,h1,_,h2⟩:=VE hk (l.getD i pd) p;simp only[qC,qR,au,aa hi,h1,ae,h2,qE hi (by grind)];rfl) l.length 0 k (by omega) bN
 have e:((0:Nat):Int)=0:=rfl;rw[e] at this;rw[this,Fa (fun q=>j8 q p) l pd l.length 0 (by omega),List.drop_zero,Nat.zero_add]
theorem vUg {k l}(hk:3≤k)(bN:l.length<k)(hl:qQ l){id x}(hx:vV l id=some x):
  Fh k l id=some (JY (yG l x) (l.getD x pd),0):=by
 have dM:=hl;unfold qQ at hl;have dp:=kO hx;have hlen:=nT dp.1;have e1:decide ((x:Int)<0)=false:=by simp
 unfold Fh VJ;rw[Bo bN (by omega)];unfold j7;rw[hx];simp only[ae,e1,an,yFq dM,qE dp.1 (by grind),yQ1 k dp.1 dM,qC,aa dp.1,ak];rw[vZ7 hk (yG l x) (VH dM) (by omega)];simp[Oy];rw[VF _ (yG l x) _ (by omega) (by decide)];rfl
def idx (l:AC)(id:Int):Nat:=(l.takeWhile (fun x=>decide (x<id))).length
theorem vUl {x}(h0:0≤x)(h1:x<9223372036854775808):zA (shr .u64 (IntKind.wrap .u64 (zA x)) 1)=x/2:=by
 have e1:zA x=x:=zO (by omega) h1;have e2:IntKind.wrap .u64 x=x:=by
  unfold IntKind.wrap;simp[IntKind.bits];omega
 rw[e1,e2];have e3:shr .u64 x 1=x/2:=by
  have:(2:Int)^(min (1:Int).toNat (IntKind.bits .u64))=2:=by decide
  grind
 rw[e3];exact zO (by omega) (by omega)
theorem vKj k a b:Oz k a b=some (decide (a<b)):=by
 unfold Oz OA;simp
theorem VK {k l id}(hl:l.length≤1000){c:Nat}(hc:c≤l.length)(h1:∀x,x<c→l.getD x 0<id)(h2:∀x,c≤x→x<l.length→id≤l.getD x 0) s6:
  ∀n i j,i≤c→c≤j→j≤l.length→j-i<n→J3 k n l id s6 i j=some (l,id,s6,(c:Int))
 |n+1,i,j,hi,hj,rY,hn=>by
  show OB k (J3 k n) l id s6 i j=_;unfold OB;rw[qR];by_cases oz:i<j
  ·have hh:zA (shr .u64 (IntKind.wrap .u64 (zA ((i:Int)+(j:Int)))) 1)=(((i+j)/2:Nat):Int):=by
    rw[vUl (by omega) (by omega)];omega
   have hm:(i+j)/2<l.length:=by omega
   rw[aa oz,ak,hh,qC,aa hm,ak,vKj];simp only[ae,au];by_cases bj:(i+j)/2<c
   ·rw[aa (h1 _ bj),ak,qE hm (by omega)];exact VK hl hc h1 h2 s6 n _ j (by omega) hj rY (by omega)
   ·rw[ab (by grind),an];exact VK hl hc h1 h2 s6 n i _ hi (by omega) (by omega) (by omega)
  grind
theorem vZj {k l id}(bN:l.length<k)(hl:l.length≤1000){c:Nat}(hc:c≤l.length)(h1:∀x,x<c→l.getD x 0<id)(h2:∀x,c≤x→x<l.length→id≤l.getD x 0):
  Fi k l id=some ((c:Int),decide (c<l.length)&&decide (l.getD c 0=id)):=by
 unfold Fi;have:=VK (k:=k) hl hc h1 h2 (l.length:Int) k 0 l.length (by omega) hc (by simp) (by omega);rw[show((0:Nat):Int)=0 from rfl] at this;rw[this];simp only[ae,qC,au];by_cases h:c<l.length
 ·simp only[aa h];by_cases h3:l.getD c 0=id
  ·simp_all
  ·rw[ab h3];unfold OC;simp
 grind
def uC (l:AC):Prop:=List.Pairwise (fun a b=>a<b) l
theorem yT7 {l id}:∀x,x<idx l id→l.getD x 0<id:=by
 intro x hx;unfold idx at hx;have h:=nU (fun x=>decide (x<id)) l;have e:l.getD x 0=(l.takeWhile (fun x=>decide (x<id))).getD x 0:=by
  grind
 have hm:=gh (d:=(0:Int)) hx;have:=List.all_eq_true.1 (List.all_takeWhile (p:=fun x=>decide (x<id)) (l:=l)) _ hm;simp_all
theorem yBq {l}(ha:uC l){id}:∀x,idx l id≤x→x<l.length→id≤l.getD x 0:=by
 intro x hx hl;have hi:idx l id<l.length:=by omega
 have h:=nU (fun x=>decide (x<id)) l;have h0:¬l.getD (idx l id) 0<id:=by
  have hd:l.drop (idx l id)=l[idx l id]::l.drop (idx l id+1):=by simp
  have h2:=h.2;unfold idx at hd;rw[h2] at hd;have bn:l.dropWhile (fun x=>decide (x<id))≠[]:=by rw[hd];simp
  have:=List.head_dropWhile_not (fun x=>decide (x<id)) bn;have e:(l.dropWhile (fun x=>decide (x<id))).head bn=l[idx l id]:=by
   unfold idx;simp_all
  simp_all
 by_cases e:x=idx l id
 ·rw[e];omega
 ·have:=List.pairwise_iff_getElem.1 ha (idx l id) x hi hl (by omega);grind
theorem vHk {l}(ha:uC l) id:(decide (idx l id<l.length)&&decide (l.getD (idx l id) 0=id))=decide (id∈l):=by
 by_cases hm:id∈l
 ·obtain⟨x,hx,e⟩:=List.getElem_of_mem hm;have e':l.getD x 0=id:=by simp_all
  have h1:¬x<idx l id:=fun h=>by have:=yT7 x h;omega
  have h3:idx l id<l.length:=by omega
  have h4:¬idx l id<x:=fun h=>by
   have g1:=yBq ha (id:=id) (idx l id) (by simp) h3;have g2:=List.pairwise_iff_getElem.1 ha (idx l id) x h3 hx h;grind
  grind
 grind
def qb (l:AC)(id:Int):AC:=l.takeWhile (fun x=>decide (x<id))++(id::l.dropWhile (fun x=>decide (x<id)))
theorem vAo {k l}(bN:l.length<k)(hl:l.length≤1000)(ha:uC l) id:Fi k l id=some ((idx l id:Int),decide (id∈l)):=by
 rw[vZj bN hl (Br _ l) yT7 (yBq ha)];show some ((idx l id:Int),decide (idx l id<l.length)&&decide (l.getD (idx l id) 0=id))=_;rw[vHk ha]
theorem VL {k l}(bN:l.length<k)(hl:l.length≤1000)(ha:uC l) id:OD k l id=some (decide (id∈l)):=by
 unfold OD;rw[vAo bN hl ha];rfl
theorem vUk {k l}(bN:l.length<k)(hl:l.length≤1000)(ha:uC l) id:
  Fj k l id=some (bif decide (id∈l) then(l,6) else bif decide (200≤l.length) then(l,3) else(qb l id,0)):=by
 unfold Fj;rw[vAo bN hl ha];by_cases hm:id∈l
 ·simp_all
 ·rw[ab hm];by_cases h:200≤l.length
  ·grind
  ·rw[ab h,ab (by grind)];have e2:pW k l=some l:=by
    unfold pW;rw[qK (by omega) (by omega)];rfl
   simp[e2,yBz];unfold idx;rw[VF _ l id hl (by decide)];rfl
def iI (l:AC):Int:=zP (fun x=>x) l
def xA (x:Int):Bool:=decide (-9223372036854775808≤x)&&decide (x<9223372036854775808)
theorem yJa x:shr .i64 x 63=x/9223372036854775808:=by
 show x.fdiv (2^(min 63 64))=_;grind
theorem qc x:IntKind.wrap .u64 x=x%18446744073709551616:=by
 rfl
theorem vDo {x}(h:0≤x∧x<18446744073709551616):zA x=if x<9223372036854775808 then x else x-18446744073709551616:=by
 unfold zA IntKind.wrap;simp[IntKind.bits,IntKind.signed];grind
theorem vKg (l:AC) i (hi:i<l.length):iI (l.take (i+1))=iI (l.take i)+l.getD i 0:=by
 have:l.take (i+1)=l.take i++[l.getD i 0]:=by
  simp_all
 unfold iI;rw[this,ma];simp[zP]
theorem yKn {k l}(hk:l.length<k)(hl:l.length≤1000000)(hw:∀i,i<l.length→-9223372036854775808≤l.getD i 0∧l.getD i 0<9223372036854775808):
  Fk k l=some (bif xA (iI l) then(iI l,true) else(0,false)):=by
 obtain ⟨s', g1, g2, g3, g4⟩ := vK (L := fun n i (s : Int × Int) => Fl k n s.1 s.2 l (l.length : Int) i) (N := l.length) (fun s => (s.1, s.2)) (fun i s => (0 ≤ s.2 ∧ s.2 < 18446744073709551616) ∧ s.1 * 18446744073709551616 + s.2 = iI (l.take i) ∧ (-(i : Int) ≤ s.1 ∧ s.1 ≤ i)) (fun n s _=>by
  show Fm k _ s.1 s.2 l l.length l.length=_;unfold Fm;simp only [qR, ab (Nat.lt_irrefl _), an]) (fun n i s hi hs=>by
  obtain⟨h,lo⟩:=s;obtain⟨⟨h1,h2⟩,h3,h4⟩:=hs;simp only at h1 h2 h3 h4;show∃s',Fm k _ h lo l l.length i=_∧_;unfold Fm DG;have hb:=hw i hi;have xB:=vKg l i hi;obtain⟨v,hv⟩:∃v,l.getD i 0=v:=⟨_,rfl⟩;rw[hv] at hb xB;simp only[qR,qC,au,aa hi,ak,hv,qc,yJa,decide_true,ae,qE hi (show l.length<9223372036854775808 by omega)];obtain⟨u,hu⟩:∃u,v%18446744073709551616=u:=⟨_,rfl⟩;rw[hu];obtain⟨q,hq⟩:∃q,v/9223372036854775808=q:=⟨_,rfl⟩;rw[hq];have rR:u=v-q*18446744073709551616:=by omega
  have oY:q=0∨q= -1:=by omega
  obtain⟨a,ha⟩:∃a:Nat,lo.toNat+u.toNat+0=a:=⟨_,rfl⟩;rw[ha];have rN:(a:Int)=lo+u:=by omega
  obtain⟨c,hc⟩:∃c:Nat,a/18446744073709551616=c:=⟨_,rfl⟩;obtain⟨m,hm⟩:∃c:Nat,a%18446744073709551616=c:=⟨_,rfl⟩;rw[hc,hm];have hcm:a=c*18446744073709551616+m:=by omega
  have lW:m<18446744073709551616:=by omega
  have lK:c≤1:=by omega
  have e1:zA (Int.ofNat c)=(c:Int):=zO (by show(_:Int)≤((c:Nat):Int);omega) (by show((c:Nat):Int)<_;omega);have e2:zA (q+(c:Int))=q+c:=zO (by omega) (by omega);have e3:zA (h+(q+(c:Int)))=h+(q+c):=zO (by omega) (by omega);rw[e1,e2,e3];refine⟨(h+(q+c),(m:Int)),rfl,by grind,?_,?_⟩
  ·rw[xB];show(h+(q+c))*18446744073709551616+(m:Int)=_;omega
  ·show-((i+1:Nat):Int)≤h+(q+c)∧h+(q+c)≤((i+1:Nat):Int);omega) (s:=(0,0)) hk ⟨⟨by show(0:Int)≤0;omega,by show(0:Int)<_;omega⟩,rfl,by show-((0:Nat):Int)≤0;omega,by show(0:Int)≤((0:Nat):Int);omega⟩
 have Bt:Fl k k 0 0 l (l.length:Int) 0=some (s'.1,s'.2):=g1;rw[List.take_length] at g3;unfold Fk;rw[Bt];simp only[ae,yJa];rw[vDo g2];by_cases c:xA (iI l)=true
 ·have c':-9223372036854775808≤iI l∧iI l<9223372036854775808:=by simpa[xA] using c
  rw[c];by_cases d:s'.2<9223372036854775808
  ·rw[if_pos d,aa (show s'.1=s'.2/9223372036854775808 by omega)];simp only[aB,an,ak];rw[show s'.2=iI l by omega]
  ·rw[if_neg d,aa (show s'.1=(s'.2-18446744073709551616)/9223372036854775808 by omega)];simp only[aB,an,ak];rw[show s'.2-18446744073709551616=iI l by omega]
 ·have c':¬(-9223372036854775808≤iI l∧iI l<9223372036854775808):=by simpa[xA] using c
  rw[Bool.not_eq_true] at c;rw[c];by_cases d:s'.2<9223372036854775808
  ·rw[if_pos d,ab (show¬s'.1=s'.2/9223372036854775808 by omega)];rfl
  ·rw[if_neg d,ab (by grind)];rfl
theorem VM {x}(h:0≤x):yL .u64 x 4294967295=x%4294967296:=by
 obtain⟨n,rfl⟩:=Int.eq_ofNat_of_zero_le h;unfold yL tw;rw[qc];have e1:(BitVec.ofInt IntKind.u64.bits (n:Int)&&&BitVec.ofInt IntKind.u64.bits 4294967295).toNat=n%4294967296:=by
  rw[BitVec.toNat_and,BitVec.toNat_ofInt,BitVec.toNat_ofInt];have e2:((4294967295:Int)%((2^IntKind.u64.bits:Nat):Int)).toNat=2^32-1:=by decide
  rw[e2,Nat.and_two_pow_sub_one_eq_mod];have e3:((n:Int)%((2^IntKind.u64.bits:Nat):Int)).toNat=n%18446744073709551616:=by
   rfl
  omega
 grind
theorem vN1 x:shr .u64 x 32=x/4294967296:=by
 show x.fdiv (2^(min 32 64))=_;grind
theorem vJe {a1 a0 b1 b0:Int}:(a1*4294967296+a0)*(b1*4294967296+b0)=a1*b1*18446744073709551616+(a1*b0+a0*b1)*4294967296+a0*b0:=by
 grind
theorem wB {a b A B:Int}(h0:0≤a)(h1:a≤A)(g0:0≤b)(g1:b≤B):0≤a*b∧a*b≤A*B:=
 ⟨Int.mul_nonneg h0 g0,Int.mul_le_mul h1 g1 g0 (by omega)⟩
theorem vB5 (k:Nat){x y:Int}(hx:0≤x∧x<18446744073709551616)(hy:0≤y∧y<18446744073709551616):J4 k x y=some (x*y/18446744073709551616,x*y%18446744073709551616):=by
 unfold J4;simp only[vN1,VM hx.1,VM hy.1,qc];obtain⟨a1,h1⟩:∃a,x/4294967296=a:=⟨_,rfl⟩;obtain⟨a0,h0⟩:∃a,x%4294967296=a:=⟨_,rfl⟩;obtain⟨b1,g1⟩:∃a,y/4294967296=a:=⟨_,rfl⟩;obtain⟨b0,g0⟩:∃a,y%4294967296=a:=⟨_,rfl⟩;have hxe:x=a1*4294967296+a0:=by omega
 have hye:y=b1*4294967296+b0:=by omega
 rw[h1,h0,g1,g0];have OE:0≤a1∧a1≤4294967295:=by omega
 have nB:0≤a0∧a0≤4294967295:=by omega
 have fi:0≤b1∧b1≤4294967295:=by omega
 have Fo:0≤b0∧b0≤4294967295:=by omega
 have p11:=wB OE.1 OE.2 fi.1 fi.2;have ui:=wB OE.1 OE.2 Fo.1 Fo.2;have p01:=wB nB.1 nB.2 fi.1 fi.2;have p00:=wB nB.1 nB.2 Fo.1 Fo.2;have N4:x*y=a1*b1*18446744073709551616+(a1*b0+a0*b1)*4294967296+a0*b0:=by rw[hxe,hye,vJe]
 rw[N4];generalize a1*b1=u at*
 generalize a1*b0=v at*
 generalize a0*b1=s at*
 generalize a0*b0=t at*
 have c1:(t%18446744073709551616)=t:=by omega
 have c2:(v%18446744073709551616+t/4294967296)%18446744073709551616=v+t/4294967296:=by omega
 rw[c1,c2];have J5:yL .u64 (v+t/4294967296) 4294967295=(v+t/4294967296)%4294967296:=VM (by omega);rw[J5];refine congrArg some (Prod.ext ?_ ?_)
 ·show _%_=_/_;omega
 ·rfl
theorem vLm k {x}(hx:0≤x∧x<18446744073709551616):OF k 0 x 10000=some (x/10000,x%10000):=by
 unfold OF;have e1:decide ((10000:Int)=0)=false:=rfl;have e2:decide ((10000:Int)≤0)=false:=rfl;simp[qc];grind
def uD (price many cut:Int):Int:=price*many*(10000-cut)/10000
theorem yWc {p m c}(hp:0≤p∧p≤1048576)(hm:0≤m∧m≤1099511627776)(hc:0≤c∧c≤10000):0≤uD p m c∧uD p m c≤1152921504606846976:=by
 have h1:=wB hp.1 hp.2 hm.1 hm.2;have h2:=wB h1.1 h1.2 (by grind) (show 10000-c≤10000 by omega);unfold uD;omega
theorem vQt k {p m c}(hp:0≤p∧p≤1048576)(hm:0≤m∧m≤1099511627776)(hc:0≤c∧c≤10000):OG k p m c=some (uD p m c,true):=by
 unfold OG VN;have w1:zA (10000-c)=10000-c:=zO (by omega) (by omega);have e1:decide (p<0)=false:=ab (by omega);have e2:decide (m<0)=false:=ab (by omega);have e3:decide (c≥0)=true:=aa (by omega);have e4:decide (c≤10000)=true:=aa (by omega);have u1:p%18446744073709551616=p:=by omega
 have u2:m%18446744073709551616=m:=by omega
 have u3:(10000-c)%18446744073709551616=10000-c:=by omega
 have h1:=wB hp.1 hp.2 hm.1 hm.2;have hP:p*m/18446744073709551616=0:=by omega
 have hP2:p*m%18446744073709551616=p*m:=by omega
 have t0:Int.tmod 0 10000=0:=by simp
 have t1:Int.tdiv 0 10000=0:=by simp
 rw[e1,e2,e3,e4,an,an,ak,ae,aB,an,qc p,qc m,u1,u2,vB5 k (by grind) (by grind),ae,hP,hP2];dsimp only;rw[t0,t1,vLm k (by grind),ae];dsimp only;rw[w1,qc (10000-c),u3];unfold uD;obtain⟨l,hl⟩:∃l,10000-c=l:=⟨_,rfl⟩;rw[hl];obtain⟨P,hPe⟩:∃P,p*m=P:=⟨_,rfl⟩;rw[hPe] at h1⊢;have dM:0≤l∧l≤10000:=by omega
 rw[vB5 k (by grind) (by grind)];have hq:=wB (show 0≤P/10000 by omega) (show P/10000≤115292150460684 by omega) dM.1 dM.2;have hr:=wB (show 0≤P%10000 by omega) (show P%10000≤9999 by omega) dM.1 dM.2;have Bu:P*l=P/10000*l*10000+P%10000*l:=by
  grind
 rw[Bu];generalize P/10000*l=a at*
 generalize P%10000*l=b at*
 have v1:a/18446744073709551616=0:=by omega
 have v2:a%18446744073709551616=a:=by omega
 have v3:b%18446744073709551616=b:=by omega
 have v4:Int.tdiv b 10000=b/10000:=Int.tdiv_eq_ediv_of_nonneg hr.1;have v5:b/10000%18446744073709551616=b/10000:=by omega
 have ha:DG k a (b/10000) 0=some (a+b/10000,0):=by
  have n1:(Int.ofNat ((a.toNat+(b/10000).toNat+0)%18446744073709551616))=a+b/10000:=by rw[Int.ofNat_eq_natCast];omega
  have n2:(Int.ofNat ((a.toNat+(b/10000).toNat+0)/18446744073709551616))=0:=by rw[Int.ofNat_eq_natCast];omega
  unfold DG;rw[aa rfl,ak,n1,n2]
 rw[ae];dsimp only;rw[v1,v2,qc b,v3,v4,qc (b/10000),v5,ha,ae];dsimp only;have z1:IntKind.wrap .u64 0=0:=by rw[qc];omega
 have z2:IntKind.wrap .u64 (0+0)=0:=by rw[qc];omega
 have z5:zA (a+b/10000)=a+b/10000:=zO (by omega) (by omega);grind
abbrev oZ:=Int×Int
abbrev uE:oZ:=(0,0)
def nV (sa:List oZ)(pr h:AC)(i:Nat):Int:=uD (pr.getD i 0) (h.getD i 0) (sa.getD i uE).2
def mc (sa:List oZ)(pr h:AC):Int:=qH (nV sa pr h) sa.length
structure kP (sa:List oZ) (pr h:AC):Prop where
 n3:sa.length≤3
 pl:pr.length=sa.length
 hl:h.length=sa.length
 cut:∀i,i<sa.length→0≤(sa.getD i uE).2∧(sa.getD i uE).2≤10000
 price:∀i,i<sa.length→0≤pr.getD i 0∧pr.getD i 0≤1048576
 hold:∀i,i<sa.length→0≤h.getD i 0∧h.getD i 0≤1099511627776
theorem J6 {sa pr h}(L:kP sa pr h){i}(hi:i<sa.length):0≤nV sa pr h i∧nV sa pr h i≤1152921504606846976:=yWc (L.price i hi) (L.hold i hi) (L.cut i hi)
theorem VO g:∀n,iI ((List.range n).map g)=qH g n
 |0=>rfl
 |n+1=>by
  rw[List.range_succ,List.map_append];unfold iI;rw[ma];have:=VO g n;unfold iI at this;rw[this];show qH g n+(g n+0)=qH g n+g n;omega
theorem OH {g A}:∀{n},(∀j,j<n→0≤g j∧g j≤A)→0≤qH g n∧qH g n≤n*A
 |0,_=>by simp[qH]
 |n+1,h=>by
  have h1:=OH (n:=n) (fun j hj=>h j (by omega));have h2:=h n (by omega);have h3:((n+1:Nat):Int)*A=n*A+A:=by grind
  show 0≤qH g n+g n∧qH g n+g n≤_;omega
theorem vZf {k:Nat}{sa:List oZ}{pr h:AC}(L:kP sa pr h)(hk:10≤k):Fp k k pr h sa sa.length 0 []=some (.inl ((List.range sa.length).map (nV sa pr h))):=by
 have hn:=L.n3;obtain ⟨s', h1, h2⟩ := vK (L := fun n i (s : AC) => Fp k n pr h sa sa.length i s) (N := sa.length) (fun s => .inl s) (fun i s => s = (List.range i).map (nV sa pr h)) (fun n s _=>by
  show Fq k _ pr h sa sa.length sa.length s=_;unfold Fq;simp only [qR, ab (Nat.lt_irrefl _), an]) (fun n i s hi hs=>by
  refine⟨s++[nV sa pr h i],?_,?_⟩
  ·show Fq k _ pr h sa sa.length i s=_;unfold Fq;have dW:s.length≤3:=by rw[hs,List.length_map,List.length_range];omega
   have hw:=vQt k (L.price i hi) (L.hold i hi) (L.cut i hi);simp only[qR,qC,au,aa hi,aa (show i<pr.length by rw[L.pl];exact hi),aa (show i<h.length by rw[L.hl];exact hi),ak,qE hi (show sa.length<9223372036854775808 by omega)];rw[hw];simp only[ae,aB,an,qK (show(s.length+1)*8≤140737488355328 by omega) (show s.length+1≤140737488355328 by omega),ak];rfl
  ·rw[hs,List.range_succ,List.map_append];rfl) (s:=[]) (show sa.length<k by omega) rfl
 have ga:Fp k k pr h sa sa.length 0 []=_:=h1;rw[ga,h2]
theorem VP {k sa pr h}(L:kP sa pr h)(hk:10≤k):sM k sa pr h=some (mc sa pr h,true):=by
 have hn:=L.n3;have hb:=OH (g:=nV sa pr h) (n:=sa.length) (fun j hj=>J6 L hj);unfold sM;have e1:decide ((pr.length:Int)=(sa.length:Int))=true:=aa (by rw[L.pl]);have e2:decide ((h.length:Int)=(sa.length:Int))=true:=aa (by rw[L.hl]);simp[e1,e2];rw[vZf L hk];simp;rw [yKn (by grind) (by grind) (fun i hi=>by
  rw[List.length_map,List.length_range] at hi;have:=J6 L hi;grind)]
 rw[VO];have e3:xA (qH (nV sa pr h) sa.length)=true:=by
  unfold xA;grind
 rw[e3];rfl
theorem Fs {sa pr h}(L:kP sa pr h):0≤mc sa pr h:=(OH (g:=nV sa pr h) (n:=sa.length) (fun j hj=>J6 L hj)).1
theorem vBs {k l}(hl:l.length≤1000){i}(h0:0≤i)(h1:i<l.length) v:qd k l i v=some (l.set i.toNat v):=by
 unfold qd;have e2:pW k l=some l:=by
  unfold pW;rw[qK (by omega) (by omega)];rfl
 simp[e2,aa (show i≥0 by omega),aa h1,ak,jS h0 h1]
theorem OI {a b m p l r}(hb:wS a b m p)(h:sH a b m p l r):
  qH (fun i=>(r.1.getD i ad).1) a.length=qH (fun i=>(a.getD i ad).1) a.length∧wS r.1 r.2.1 r.2.2.1 r.2.2.2.1∧(r.2.2.2.2=0∨(r.1=a∧r.2.1=b∧r.2.2.1=m∧r.2.2.2.1=p)):=by
 by_cases c:wC a.length l
 ·obtain⟨a',p',x,e⟩:=h.1 c;cases hi:mV a' b m p' with
  |false=>
   simp_all
  |true=>
   rw[hi] at e;subst e;refine⟨?_,NT.1 hi,.inl rfl⟩;have e1:qH (fun i=>(a'.getD i ad).1) a.length=qH (fun i=>(a.getD i ad).1+zP (gB i) l) a.length:=sD fun j hj=>by rw[x.acct j hj]
   show qH (fun i=>(a'.getD i ad).1) a.length=_;rw[e1,DJ,Nz];have e2:zP (fun p=>qH (fun j=>gB j p) a.length) l=zP (fun _=>(0:Int)) l:=Ny fun p hp=>by
    obtain⟨f0,f1,t0,t1,ne,a1,a2,c1,c3⟩:=c.1 p hp;obtain⟨f,hf⟩:∃f:Nat,p.2.1=f:=⟨p.2.1.toNat,by omega⟩;obtain⟨t,ht⟩:∃t:Nat,p.2.2.1=t:=⟨p.2.2.1.toNat,by omega⟩;have g1:∀j,gB j p=(if j=t then p.2.2.2.1 else 0)+(if j=f then-p.2.2.2.1 else 0):=by
     unfold gB;omega
    rw[sD fun j _=>g1 j,DJ,A3,A3,if_pos (by omega),if_pos (by omega)];omega
   have e3:∀l:List zH,zP (fun _:zH=>(0:Int)) l=0:=by
    intro l
    induction l with
    |nil=>rfl
    |cons p l ih=>show 0+zP _ l=0;omega
   simp_all
 ·have e:=h.2 c;simp_all
abbrev BT:=List qY×EQ×AC×EQ
def qO (B:BT):Prop:=wS B.1 B.2.1 B.2.2.1 B.2.2.2
theorem Ft {k}(hk:100<k){B}(h:qO B){l:List zH}(hl:l.length≤80):
  ∃r,pZ k B.1 B.2.1 B.2.2.1 B.2.2.2 l=some r∧Bf k B.1 B.2.1 B.2.2.1 B.2.2.2 l=some r∧sH B.1 B.2.1 B.2.2.1 B.2.2.2 l r:=by
 obtain⟨r,h1,h2⟩:=N5 hk h hl;obtain⟨r',h3,h4⟩:=vMf hk h hl;have:=h2.same h4;simp_all
def xC (B:BT)(l:List zH):Bool:=xw B.1 B.2.1 B.2.2.1 B.2.2.2 l
def ik (k:Nat)(B:BT)(l:List zH):Option BT:=match pZ k B.1 B.2.1 B.2.2.1 B.2.2.2 l with
 |some r=>bif decide (r.2.2.2.2=0)&&xC B l then some (r.1,r.2.1,r.2.2.1,r.2.2.2.1) else none
 |none=>none
theorem sN {k}(hk:100<k){B C}(h:qO B){l}(hl:l.length≤80)(hg:ik k B l=some C):qO C∧C.1.length=B.1.length:=by
 obtain⟨r,h1,h2,h3⟩:=Ft hk h hl;unfold ik at hg;rw[h1] at hg;simp only at hg;cases hc:decide (r.2.2.2.2=0)&&xC B l with
 |false=>
  simp_all
 |true=>
  rw[hc] at hg;simp  at hg;subst hg;refine⟨(OI h h3).2.1,?_⟩;by_cases c:wC B.1.length l
  ·obtain⟨a',p',x,e⟩:=h3.1 c;cases hi:mV a' B.2.1 B.2.2.1 p' with
   |false=>simp_all
   |true=>rw[hi] at e;subst e;exact x.al
  ·rw[h3.2 c]
def jW (k:Nat)(B:BT):List zH→Option (zH×BT)
 |[]=>none
 |p::l=>match ik k B [p] with
  |some C=>some (p,C)
  |none=>jW k B l
theorem Bv {k B C p}:∀{l},jW k B l=some (p,C)→p∈l∧ik k B [p]=some C
 |q::l,h=>by
  unfold jW at h;cases hg:ik k B [q] with
  |some D=>
   simp_all
  |none=>
   rw[hg] at h;have:=Bv h;simp_all
theorem yQm k B {m:List zH}{i}(hi:i<m.length):jW k B (m.drop i)=match ik k B [m.getD i pd] with
  |some C=>some (m.getD i pd,C)
  |none=>jW k B (m.drop (i+1)):=by
 rw[List.drop_eq_getElem_cons hi];have e:m.getD i pd=m[i]:=by simp_all
 rw[e];rfl
theorem OJ l t:(vR l t).length≤l.length:=Nat.le_trans (List.length_filter_le _ _) (by grind)
theorem vJj m i (hi:i<m.length):qS m (0+i) (i+1-i)=[m.getD i pd]:=by
 unfold qS;rw[Nat.zero_add,show i+1-i=1 by omega,List.drop_eq_getElem_cons hi,List.getD_eq_getElem?_getD,List.getElem?_eq_getElem hi];rfl
def eX (l:List zH)(id:Int):List zH:=(ij l id).1
theorem uF {l p}(h:p∈l):(eX l p.1).length+1=l.length∧List.Sublist (eX l p.1) l:=by
 obtain⟨x,hx⟩:=Ot h;unfold eX ij;rw[hx];have:=(kO hx).1;refine⟨?_,uB l x⟩;rw[nT this];omega
theorem Fu {l t p}(h:p∈vR l t):p∈l:=(List.mem_filter.1 (List.mem_filter.1 h).1).1
inductive gJ (k:Nat) (t:Int):BT→List zH→List zH→BT→List zH→Prop
 |stop {B:BT} {l:List zH} (h:jW k B (vR l t)=none):gJ k t B l [] B l
 |step {B C D:BT} {l m done:List zH} {p:zH} (h:jW k B (vR l t)=some (p,C)) (h':gJ k t C (eX l p.1) done D m):gJ k t B l (p::done) D m
theorem yR0 {k}(hk:100<k){B}(h:qO B){l:List zH}(hl:l.length≤80):Bl k B.1 B.2.1 B.2.2.1 B.2.2.2 l=some (xC B l):=vQs hk h hl
theorem ySo {k}(hk:100<k){B}(h:qO B)(m:List zH)(hm:m.length≤1000):∀c i n,i+c=m.length→c<n→
  J7 k n m.length i B.1 B.2.1 B.2.2.1 B.2.2.2 0 0 0 0 0 0 0 m = some (match jW k B (m.drop i) with
   |some (p,C)=>.inr (true,p.1,p.2.1,p.2.2.1,p.2.2.2.1,p.2.2.2.2.1,p.2.2.2.2.2.1,p.2.2.2.2.2.2,C.1,C.2.1,C.2.2.1,C.2.2.2)
   |none=>.inl (B.1,B.2.1,B.2.2.1,B.2.2.2,0,0,0,0,0,0,0))
 |0,i,n,e,hn=>by
  obtain⟨n,rfl⟩:∃x,n=x+1:=⟨n-1,by omega⟩;have:i=m.length:=by omega
  subst this;show Fv k _ m.length m.length B.1 B.2.1 B.2.2.1 B.2.2.2 0 0 0 0 0 0 0 m=_;unfold Fv;simp;rfl
 |c+1,i,n,e,hn=>by
  obtain⟨n,rfl⟩:∃x,n=x+1:=⟨n-1,by omega⟩;have hi:i<m.length:=by omega
  have ih:=ySo hk h m hm c (i+1) n (by omega) (by omega);show Fv k _ m.length i B.1 B.2.1 B.2.2.1 B.2.2.2 0 0 0 0 0 0 0 m=_;unfold Fv;obtain⟨r,h1,h2,h3⟩:=Ft hk h (l:=[m.getD i pd]) (by simp);have hf:=yR0 hk h (l:=[m.getD i pd]) (by simp);simp[qC,qE hi (by grind)];rw[yQm k B hi];unfold ik;grind
def yN9 (B:BT)(x:Option (zH×BT)):Int×Int×Int×Int×Int×Int×Int×(List (Int×Int×Int))×EQ×AC×EQ×Bool:=match x with
 |some (p,C)=>(p.1,p.2.1,p.2.2.1,p.2.2.2.1,p.2.2.2.2.1,p.2.2.2.2.2.1,p.2.2.2.2.2.2,C.1,C.2.1,C.2.2.1,C.2.2.2,true)
 |none=>(0,0,0,0,0,0,0,B.1,B.2.1,B.2.2.1,B.2.2.2,false)
theorem vOi {k}(hk:100<k){B}(h:qO B){l}(bN:l.length<k)(hl:qQ l)(hd:qL l) t:OK k B.1 B.2.1 B.2.2.1 B.2.2.2 l t=some (yN9 B (jW k B (vR l t))):=by
 unfold OK;rw[yA8 bN hl hd];have Fw:=OJ l t;unfold qQ at hl;have:=ySo hk h (vR l t) (by omega) (vR l t).length 0 k (by omega) (by omega);have e:((0:Nat):Int)=0:=rfl;rw[e,List.drop_zero] at this;simp;rw[this];cases jW k B (vR l t) with
 |none=>rfl
 |some x=>rfl
theorem yTt {k}(hk:100<k) t:∀n B (l r:List zH),qO B→qL l→l.length≤100→l.length<n→r.length+l.length≤1000→
  ∃(C:BT) (m done:List zH),J8 k n t l B.1 B.2.1 B.2.2.1 B.2.2.2 r=some (m,C.1,C.2.1,C.2.2.1,C.2.2.2,r++done)∧gJ k t B l done C m∧qO C∧C.1.length=B.1.length∧List.Sublist m l
 |n+1,B,l,r,hb,hd,hl,hn,hr=>by
  have h1:=vOi hk hb (l:=l) (by omega) (by show l.length≤1000;omega) hd t;cases hx:jW k B (vR l t) with
  |none=>
   rw[hx] at h1;refine⟨B,l,[],?_,.stop hx,hb,rfl,by simp⟩;show Fx k _ t l B.1 B.2.1 B.2.2.1 B.2.2.2 r=_;unfold Fx;rw[h1];simp only[ae,yN9,bZ,ak,List.append_nil]
  |some x=>
   obtain⟨p,C⟩:=x;rw[hx] at h1;obtain⟨hp,hg⟩:=Bv hx;have Db:=Fu hp;obtain⟨tK,mK⟩:=uF Db;obtain⟨nN,cN⟩:=sN hk hb (by simp) hg;obtain⟨D,m,done,g1,g3,g4,g5,g6⟩:=yTt hk t n C (eX l p.1) (r++[p]) nN (List.Pairwise.sublist mK hd) (by omega) (by omega) (by grind);refine⟨D,m,p::done,?_,.step hx g3,g4,by grind,g6.trans mK⟩;show Fx k _ t l B.1 B.2.1 B.2.2.1 B.2.2.2 r=_;unfold Fx;rw[h1];simp[Bq (show l.length<k by omega) (show qQ l by show l.length≤1000;omega),nR (show r.length≤1000 by omega)];rw[List.append_cons r p done,←g1];rfl
theorem vMb {k}(hk:200≤k){B}(hb:qO B){l}(hd:qL l)(hl:l.length≤100) t:
  ∃(C:BT) (m done:List zH),OM k B.1 B.2.1 B.2.2.1 B.2.2.2 l t=some (C.1,C.2.1,C.2.2.1,C.2.2.2,m,done)∧gJ k t B l done C m∧qO C∧C.1.length=B.1.length∧List.Sublist m l:=by
 obtain⟨C,m,done,h1,h3⟩:=yTt (show 100<k by omega) t k B l [] hb hd hl (by omega) (by grind);refine⟨C,m,done,?_,h3⟩;unfold OM;simp_all
def qe (p q:zH):Bool:=decide (q.2.1=p.2.2.1)&&(decide (q.2.2.1=p.2.1)&& !decide (p.2.1≥q.2.1))
def o0 (k:Nat)(B:BT)(p:zH):List zH→Option (zH×BT)
 |[]=>none
 |q::l=>match(bif qe p q then ik k B [p,q] else none) with
  |some C=>some (q,C)
  |none=>o0 k B p l
def sQ (k:Nat)(B:BT)(m:List zH):List zH→Option (zH×zH×BT)
 |[]=>none
 |p::l=>match o0 k B p m with
  |some (q,C)=>some (p,q,C)
  |none=>sQ k B m l
theorem VQ {k B C p q}:∀{l},o0 k B p l=some (q,C)→q∈l∧qe p q=true∧ik k B [p,q]=some C
 |r::l,h=>by
  unfold o0 at h;cases hd:qe p r with
  |false=>
   rw[hd] at h;have:=VQ (l:=l) h;simp_all
  |true=>
   rw[hd] at h;cases hg:ik k B [p,r] with
   |some D=>
    simp_all
   |none=>
    rw[hg] at h;have:=VQ (l:=l) h;simp_all
theorem ON {k B C p q m}:∀{l},sQ k B m l=some (p,q,C)→p∈l∧q∈m∧qe p q=true∧ik k B [p,q]=some C
 |r::l,h=>by
  unfold sQ at h;cases hq:o0 k B r m with
  |some x=>
   rw[hq] at h;cases h;exact⟨by simp,VQ hq⟩
  |none=>
   rw[hq] at h;have:=ON (l:=l) h;simp_all
theorem yMs {α:Type}{l:List α}{i} h d:l.getD i d=l[i]:=by
 simp_all
theorem yE6 k B p {m:List zH}{i}(hi:i<m.length):o0 k B p (m.drop i)=match(bif qe p (m.getD i pd) then ik k B [p,m.getD i pd] else none) with
  |some C=>some (m.getD i pd,C)
  |none=>o0 k B p (m.drop (i+1)):=by
 rw[List.drop_eq_getElem_cons hi,yMs hi];rfl
theorem yCy k B r {m:List zH}{i}(hi:i<m.length):sQ k B r (m.drop i)=match o0 k B (m.getD i pd) r with
  |some (q,C)=>some (m.getD i pd,q,C)
  |none=>sQ k B r (m.drop (i+1)):=by
 rw[List.drop_eq_getElem_cons hi,yMs hi];rfl
def fy (k:Nat)(B:BT)(l:List zH)(t:Int):Option (zH×zH×BT):=sQ k B (vR l t) (vR l t)
theorem vTf {l x q}(hx:x<l.length)(h:q∈l)(bn:q≠l.getD x pd):q∈yG l x:=by
 unfold yG;have e:=Oq l x pd hx;grind
theorem qL.eq_of {l}(h:qL l){p q}(hp:p∈l)(hq:q∈l)(e:p.1=q.1):p=q:=by
 obtain⟨i,hi,ei⟩:=List.getElem_of_mem hp;obtain⟨j,hj,ej⟩:=List.getElem_of_mem hq;have hl:=List.pairwise_iff_getElem.1 h;grind
theorem VR {l p q}(hp:p∈l)(hq:q∈l)(bn:q.1≠p.1):q∈eX l p.1:=by
 obtain⟨x,hx⟩:=Ot hp;unfold eX ij;rw[hx];have:=kO hx;exact vTf this.1 hq (by grind)
def Bw (l:List zH)(p q:zH):List zH:=eX (eX l p.1) q.1
theorem Fy {k B C l t p q}(h:fy k B l t=some (p,q,C)):p∈l∧q∈l∧qe p q=true∧ik k B [p,q]=some C:=by
 obtain⟨h1,h2,h3⟩:=ON h;exact⟨Fu h1,Fu h2,h3⟩
theorem yW6 {l}(hd:qL l){p q}(hp:p∈l)(hq:q∈l)(h:qe p q=true):q.1≠p.1:=by
 intro e;have:=hd.eq_of hq hp e;subst this;unfold qe at h;simp at h
theorem Fz {l}(hd:qL l){p q}(hp:p∈l)(hq:q∈l)(h:qe p q=true):(Bw l p q).length+2=l.length∧List.Sublist (Bw l p q) l:=by
 obtain⟨h1,h2⟩:=uF hp;obtain⟨h3,h4⟩:=uF (VR hp hq (yW6 hd hp hq h));unfold Bw;exact⟨by omega,h4.trans h2⟩
inductive jQ (k:Nat) (t:Int):BT→List zH→List zH→BT→List zH→Prop
 |stop {B:BT} {l:List zH} (h:fy k B l t=none):jQ k t B l [] B l
 |step {B C D:BT} {l m done:List zH} {p q:zH} (h:fy k B l t=some (p,q,C)) (h':jQ k t C (Bw l p q) done D m):jQ k t B l (p::q::done) D m
theorem jQ.length {k t B C l done m}(h:jQ k t B l done C m)(hd:qL l):done.length+m.length=l.length∧done.length%2=0:=by
 induction h with
 |stop _=>simp
 |step h _ ih=>
  obtain⟨hp,hq,o6,_⟩:=Fy h;obtain⟨h1,h2⟩:=Fz hd hp hq o6;have:=ih (List.Pairwise.sublist h2 hd);grind
theorem jQ.sub {k t B C l done m}(h:jQ k t B l done C m)(hd:qL l):List.Sublist m l:=by
 induction h with
 |stop _=>simp
 |step h _ ih=>
  obtain⟨hp,hq,o6,_⟩:=Fy h;obtain⟨h1,h2⟩:=Fz hd hp hq o6;exact(ih (List.Pairwise.sublist h2 hd)).trans h2
theorem yM4 {k}(hk:100<k){B}(h:qO B)(m:List zH)(hm:m.length≤1000) p dI cL:∀c i n,i+c=m.length→c<n→
  J9 k n dI cL m.length i B.1 B.2.1 B.2.2.1 B.2.2.2 0 0 0 0 0 0 0 0 0 0 0 0 0 0 m p.1 p.2.1 p.2.2.1 p.2.2.2.1 p.2.2.2.2.1 p.2.2.2.2.2.1 p.2.2.2.2.2.2 = some (match o0 k B p (m.drop i) with
   |some (q,C)=>.inr (true,p.1,p.2.1,p.2.2.1,p.2.2.2.1,p.2.2.2.2.1,p.2.2.2.2.2.1,p.2.2.2.2.2.2,q.1,q.2.1,q.2.2.1,q.2.2.2.1,q.2.2.2.2.1,q.2.2.2.2.2.1,q.2.2.2.2.2.2,C.1,C.2.1,C.2.2.1,C.2.2.2)
   |none=>.inl (dI,cL,B.1,B.2.1,B.2.2.1,B.2.2.2,0,0,0,0,0,0,0,0,0,0,0,0,0,0,m))
 |0,i,n,e,hn=>by
  obtain⟨n,rfl⟩:∃x,n=x+1:=⟨n-1,by omega⟩;have:i=m.length:=by omega
  subst this;show FA k _ dI cL m.length m.length B.1 B.2.1 B.2.2.1 B.2.2.2 0 0 0 0 0 0 0 0 0 0 0 0 0 0 m p.1 p.2.1 p.2.2.1 p.2.2.2.1 p.2.2.2.2.1 p.2.2.2.2.2.1 p.2.2.2.2.2.2=_;unfold FA;simp;rfl
 |c+1,i,n,e,hn=>by
  obtain⟨n,rfl⟩:∃x,n=x+1:=⟨n-1,by omega⟩;have hi:i<m.length:=by omega
  have ih:=yM4 hk h m hm p dI cL c (i+1) n (by omega) (by omega);show FA k _ dI cL m.length i B.1 B.2.1 B.2.2.1 B.2.2.2 0 0 0 0 0 0 0 0 0 0 0 0 0 0 m p.1 p.2.1 p.2.2.1 p.2.2.2.1 p.2.2.2.2.1 p.2.2.2.2.2.1 p.2.2.2.2.2.2=_;unfold FA;obtain⟨r,h1,h2,h3⟩:=Ft hk h (l:=[p,m.getD i pd]) (by simp);have hf:=yR0 hk h (l:=[p,m.getD i pd]) (by simp);have ga:pZ k B.1 B.2.1 B.2.2.1 B.2.2.2 [(p.1,p.2.1,p.2.2.1,p.2.2.2.1,p.2.2.2.2.1,p.2.2.2.2.2.1,p.2.2.2.2.2.2),m.getD i (0,(0,(0,(0,(0,(0,0))))))]=some r:=h1;have eg:Bl k B.1 B.2.1 B.2.2.1 B.2.2.2 [(p.1,p.2.1,p.2.2.1,p.2.2.2.1,p.2.2.2.2.1,p.2.2.2.2.2.1,p.2.2.2.2.2.2),m.getD i (0,(0,(0,(0,(0,(0,0))))))]=some (xC B [p,m.getD i pd]):=hf;simp only[qC,qE hi (by grind),qR,au,aa hi];rw[yE6 k B p hi];unfold qe;cases decide ((m.getD i pd).2.1=p.2.2.1) with
  |false=>exact ih
  |true=>
   cases decide ((m.getD i pd).2.2.1=p.2.1) with
   |false=>exact ih
   |true=>
    cases decide (p.2.1≥(m.getD i pd).2.1) with
    |true=>exact ih
    |false=>
     unfold ik;grind
theorem yTc {k}(hk:100<k){B}(h:qO B)(m:List zH)(hm:m.length≤1000)(Ka:m.length<k):∀c i n,i+c=m.length→c<n→
  Kb k n m.length i B.1 B.2.1 B.2.2.1 B.2.2.2 0 0 0 0 0 0 0 0 0 0 0 0 0 0 m = some (match sQ k B m (m.drop i) with
   |some (p,q,C)=>.inr (true,p.1,p.2.1,p.2.2.1,p.2.2.2.1,p.2.2.2.2.1,p.2.2.2.2.2.1,p.2.2.2.2.2.2,q.1,q.2.1,q.2.2.1,q.2.2.2.1,q.2.2.2.2.1,q.2.2.2.2.2.1,q.2.2.2.2.2.2,C.1,C.2.1,C.2.2.1,C.2.2.2)
   |none=>.inl (0,0,0,0,0,0,0,0,0,0,0,0,0,0))
 |0,i,n,e,hn=>by
  obtain⟨n,rfl⟩:∃x,n=x+1:=⟨n-1,by omega⟩;have:i=m.length:=by omega
  subst this;show FB k _ m.length m.length B.1 B.2.1 B.2.2.1 B.2.2.2 0 0 0 0 0 0 0 0 0 0 0 0 0 0 m=_;unfold FB;simp;rfl
 |c+1,i,n,e,hn=>by
  obtain⟨n,rfl⟩:∃x,n=x+1:=⟨n-1,by omega⟩;have hi:i<m.length:=by omega
  have ih:=yTc hk h m hm Ka c (i+1) n (by omega) (by omega);show FB k _ m.length i B.1 B.2.1 B.2.2.1 B.2.2.2 0 0 0 0 0 0 0 0 0 0 0 0 0 0 m=_;unfold FB;have fj:=yM4 hk h m hm (m.getD i pd) m.length i m.length 0 k (by omega) Ka;have e0:((0:Nat):Int)=0:=rfl;rw[e0,List.drop_zero] at fj;simp only[qC,qR,au,aa hi];rw[fj];rw[yCy k B m hi];cases o0 k B (m.getD i (0,(0,(0,(0,(0,(0,0))))))) m with
  |none=>
   simp[qE hi (by grind)];exact ih
  |some x=>rfl
def VT (x:Option (zH×zH×BT)):Int×Int×Int×Int×Int×Int×Int×Int×Int×Int×Int×Int×Int×Int×(List (Int×Int×Int))×EQ×AC×EQ×Bool:=match x with
 |some (p,q,C)=>(p.1,p.2.1,p.2.2.1,p.2.2.2.1,p.2.2.2.2.1,p.2.2.2.2.2.1,p.2.2.2.2.2.2,q.1,q.2.1,q.2.2.1,q.2.2.2.1,q.2.2.2.2.1,q.2.2.2.2.2.1,q.2.2.2.2.2.2,C.1,C.2.1,C.2.2.1,C.2.2.2,true)
 |none=>(0,0,0,0,0,0,0,0,0,0,0,0,0,0,[],[],[],[],false)
theorem vSp {k}(hk:100<k){B}(h:qO B){l}(bN:l.length<k)(hl:qQ l)(hd:qL l) t:OO k B.1 B.2.1 B.2.2.1 B.2.2.2 l t=some (VT (fy k B l t)):=by
 unfold OO fy;rw[yA8 bN hl hd];have Fw:=OJ l t;unfold qQ at hl;have:=yTc hk h (vR l t) (by omega) (by omega) (vR l t).length 0 k (by omega) (by omega);have e:((0:Nat):Int)=0:=rfl;rw[e,List.drop_zero] at this;simp;rw[this];cases sQ k B (vR l t) (vR l t) with
 |none=>rfl
 |some x=>rfl
theorem vP8 {k}(hk:3≤k) t (l:List zH)(hl:l.length≤1000)(uh:l.length<k)(C:BT)(r:List zH)(hr:r.length≤900)(p q:zH):
  xD k k t l 2 0 C.1 C.2.1 C.2.2.1 C.2.2.2 r [p,q]=some (t,Bw l p q,C.1,C.2.1,C.2.2.1,C.2.2.2,r++[p,q]):=by
 obtain⟨n,rfl⟩:∃n,k=n+3:=⟨k-3,by omega⟩;have h1:=Bq uh (show qQ l from hl) p.1;have tK:(eX l p.1).length≤l.length:=by
  unfold eX ij;cases hp:vV l p.1 with
  |none=>simp
  |some x=>exact List.Sublist.length_le (uB l x)
 have h2:=Bq (k:=n+3) (l:=eX l p.1) (by omega) (show(eX l p.1).length≤1000 by omega) q.1;have e1:zQ (r.length+1) 56=true:=nR (by omega);have e2:zQ ((r++[p]).length+1) 56=true:=nR (by grind);show xE (n+3) (xD (n+3) (n+2)) t l 2 0 C.1 C.2.1 C.2.2.1 C.2.2.2 r [p,q]=_;unfold xE;have g0:[p,q].getD (Int.toNat 0) (0,(0,(0,(0,(0,(0,0))))))=p:=rfl;have b0:zB 0 [p,q].length=true:=rfl;have d0:decide ((0:Int)<2)=true:=rfl;have w0:zA (0+1)=1:=by decide
 rw[d0,b0,g0,h1];simp[e1];show xE (n+3) (xD (n+3) (n+1)) t (eX l p.1) 2 1 C.1 C.2.1 C.2.2.1 C.2.2.2 (r++[p]) [p,q]=_;unfold xE;have g1:[p,q].getD (Int.toNat 1) (0,(0,(0,(0,(0,(0,0))))))=q:=rfl;have b1:zB 1 [p,q].length=true:=rfl;have d1:decide ((1:Int)<2)=true:=rfl;have w1:zA (1+1)=2:=by decide
 rw[d1,b1,g1,h2];simp only[e2];show xE (n+3) (xD (n+3) n) t (Bw l p q) 2 2 C.1 C.2.1 C.2.2.1 C.2.2.2 (r++[p]++[q]) [p,q]=_;unfold xE;simp
theorem yR5 {k}(hk:100<k) t:∀n B (l r:List zH),qO B→qL l→l.length≤100→l.length<n→r.length+l.length≤900→
  ∃(C:BT) (m done:List zH),Kc k n t l B.1 B.2.1 B.2.2.1 B.2.2.2 r=some (m,C.1,C.2.1,C.2.2.1,C.2.2.2,r++done)∧jQ k t B l done C m∧qO C∧C.1.length=B.1.length∧List.Sublist m l
 |n+1,B,l,r,hb,hd,hl,hn,hr=>by
  have h1:=vSp hk hb (l:=l) (by omega) (by show l.length≤1000;omega) hd t;cases hx:fy k B l t with
  |none=>
   rw[hx] at h1;refine⟨B,l,[],?_,.stop hx,hb,rfl,by simp⟩;show FC k _ t l B.1 B.2.1 B.2.2.1 B.2.2.2 r=_;unfold FC;rw[h1];simp only[ae,VT,bZ,ak,List.append_nil]
  |some x=>
   obtain⟨p,q,C⟩:=x;obtain⟨hp,hq,o6,hg⟩:=Fy hx;obtain⟨tK,mK⟩:=Fz hd hp hq o6;obtain⟨nN,cN⟩:=sN hk hb (by simp) hg;obtain⟨D,m,done,g1,g3,g4,g5,g6⟩:=yR5 hk t n C (Bw l p q) (r++[p,q]) nN (List.Pairwise.sublist mK hd) (by omega) (by omega) (by grind);refine⟨D,m,p::q::done,?_,.step hx g3,g4,by grind,g6.trans mK⟩;show FC k _ t l B.1 B.2.1 B.2.2.1 B.2.2.2 r=_;unfold FC;rw[h1];have hL:=vP8 (k:=k) (by omega) t l (by omega) (by omega) C r (by omega) p q;simp only[VT,an];simp_all
theorem vFd {k}(hk:200≤k){B}(hb:qO B){l}(hd:qL l)(hl:l.length≤100) t:
  ∃(C:BT) (m done:List zH),OP k B.1 B.2.1 B.2.2.1 B.2.2.2 l t=some (C.1,C.2.1,C.2.2.1,C.2.2.2,m,done)∧jQ k t B l done C m∧qO C∧C.1.length=B.1.length∧List.Sublist m l:=by
 obtain⟨C,m,done,h1,h3⟩:=yR5 (show 100<k by omega) t k B l [] hb hd hl (by omega) (by grind);refine⟨C,m,done,?_,h3⟩;unfold OP;simp_all
def jR (l:List zH)(f:Int):Nat:=(l.filter (wY f)).length
def sR (l:List zH)(many:AC)(i:Nat):Bool:=
 (decide ((l.getD i pd).2.1≥0)&&decide ((l.getD i pd).2.1<(many.length:Int)))&&decide (((jR (l.take i) (l.getD i pd).2.1:Nat):Int)<many.getD (l.getD i pd).2.1.toNat 0)
def mX (l:List zH)(many:AC):Nat→List zH
 |0=>[]
 |i+1=>mX l many i++(bif sR l many i then[l.getD i pd] else[])
def vN (l:List zH)(many:AC):List zH:=mX l many l.length
theorem ySg l many:∀N,N≤l.length→List.Sublist (mX l many N) (l.take N)
 |0,_=>by simp[mX]
 |N+1,h=>by
  rw[←fG l N pd h];apply List.Sublist.append (ySg l many N (by omega));grind
theorem xF l many:List.Sublist (vN l many) l:=by
 have:=ySg l many l.length (by simp)
 rwa [List.take_length] at this
def uG (v w:AC):Prop:=v.length=w.length∧∀i,i<w.length→v.getD i 0≤w.getD i 0
def eN (B:BT)(l:List zH):AC:=uz B.1 B.2.1 B.2.2.1 B.2.2.2 l
def eY (s:AC)(m:AC):AC:=s.foldl (fun m i=>m.set i.toNat (m.getD i.toNat 0-1)) m
theorem uH:∀s m,(eY s m).length=m.length
 |[],_=>rfl
 |i::s,m=>by
  show(eY s (m.set i.toNat (m.getD i.toNat 0-1))).length=_;rw[uH s,List.length_set]
theorem yPg:∀(s:List Nat) m,s.Nodup→(∀i∈s,i<m.length)→∀j,(eY (s.map fun(x:Nat)=>(x:Int)) m).getD j 0=m.getD j 0-(if j∈s then 1 else 0)
 |[],m,_,_,j=>by simp[eY]
 |i::s,m,hs,hi,j=>by
  show(eY (s.map fun(x:Nat)=>(x:Int)) (m.set ((i:Int)).toNat (m.getD ((i:Int)).toNat 0-1))).getD j 0=_;rw[au,yPg s _ (by grind) (by grind),fm];grind
def uI (B:BT)(l:List zH)(i:Nat):Bool:=gI B.1 B.2.1 B.2.2.1 B.2.2.2 l i
theorem yY7 B l {m}(hm:m.length=B.1.length) j:(eY (eN B l) m).getD j 0=m.getD j 0-(if j<B.1.length∧uI B l j=true then 1 else 0):=by
 have:=yPg ((List.range B.1.length).filter fun i=>uI B l i) m (List.Nodup.sublist List.filter_sublist (by grind)) (by grind) j;unfold eN uz;rw[show(fun i=>gI B.1 B.2.1 B.2.2.1 B.2.2.2 l i)=fun i=>uI B l i from rfl,this];simp
theorem VU {B l}:eN B l=[]↔∀j,j<B.1.length→uI B l j=false:=by
 unfold eN uz;rw[List.map_eq_nil_iff,List.filter_eq_nil_iff];constructor
 ·intro h j hj;have:=h j (by grind)
  simpa[uI] using this
 ·intro h i hi;have:=h i (by grind)
  simpa[uI] using this
theorem yA3 {l many p}:∀{N},p∈mX l many N→∃i,i<N∧l.getD i pd=p∧sR l many i=true
 |N+1,h=>by
  unfold mX at h;rw[List.mem_append] at h;rcases h with h|h
  ·obtain⟨i,h1,h2⟩:=yA3 h;grind
  grind
theorem vVf {B l}(hl:∀q∈l,yJ B.1.length q){m j}(h:uI B (vN l m) j=true):1≤m.getD j 0:=by
 unfold uI gI at h;rw[bb,Bool.not_eq_true'] at h;have hn:=yS5 (n:=B.1.length) (l:=vN l m) (fun q hq=>hl q ((xF l m).subset hq)) j;rw[h.1] at hn;obtain⟨x,hx,he⟩:=Oh.1 hn;obtain⟨i,h1,h2,h3⟩:=yA3 (gh (d:=pd) hx);unfold sR at h3;have N9:(l.getD i pd)=(vN l m).getD x pd:=h2;grind
inductive kQ (B:BT) (l:List zH):AC→AC→Nat→Prop
 |stop {m:AC} (h:eN B (vN l m)=[]):kQ B l m m 0
 |step {m f:AC} {n:Nat} (h:eN B (vN l m)≠[]) (h':kQ B l (eY (eN B (vN l m)) m) f n):kQ B l m f (n+1)
theorem VV {B l m}(hm:m.length=B.1.length):uG (eY (eN B l) m) m:=by
 refine⟨uH _ _,fun i hi=>?_⟩;rw[yY7 B l hm];omega
theorem uG.trans {u v w}(h:uG u v)(h':uG v w):uG u w:=⟨h.1.trans h'.1,fun i hi=>Int.le_trans (h.2 i (by have:=h'.1;omega)) (h'.2 i hi)⟩
theorem uG.refl v:uG v v:=⟨rfl,by simp⟩
theorem kQ.le {B l m f n}(h:kQ B l m f n)(hm:m.length=B.1.length):uG f m:=by
 induction h with
 |stop _=>exact uG.refl _
 |step _ _ ih=>exact(ih ((uH _ _).trans hm)).trans (VV hm)
theorem kQ.final {B l m f n}(h:kQ B l m f n):eN B (vN l f)=[]:=by
 induction h with
 |stop h=>exact h
 |step _ _ ih=>exact ih
def o9 (m:AC):Prop:=∀i,0≤m.getD i 0
theorem OQ {B l}(hl:∀q∈l,yJ B.1.length q){m}(hm:m.length=B.1.length)(h0:o9 m):o9 (eY (eN B (vN l m)) m):=by
 intro i;rw[yY7 B _ hm];have:=h0 i;split
 ·rename_i c;have:=vVf hl c.2;omega
 ·omega
theorem kQ.nonneg {B l}(hl:∀q∈l,yJ B.1.length q){m f n}(h:kQ B l m f n)(hm:m.length=B.1.length)(h0:o9 m):o9 f:=by
 induction h with
 |stop _=>exact h0
 |step _ _ ih=>exact ih ((uH _ _).trans hm) (OQ hl hm h0)
def mY (m:AC):Int:=zP (fun x=>x) m
theorem ySf:∀m i x,i<m.length→mY (m.set i x)=mY m-m.getD i 0+x
 |y::m,0,x,_=>by
  show x+mY m=y+mY m-y+x;omega
 |y::m,i+1,x,h=>by
  show y+mY (m.set i x)=y+mY m-m.getD i 0+x;rw[ySf m i x (by simp_all)];omega
theorem yQy:∀s m,(∀i∈s,0≤i∧i<(m.length:Int))→mY (eY s m)=mY m-s.length
 |[],m,_=>by simp[eY]
 |i::s,m,h=>by
  have hi:=h i (by simp);show mY (eY s (m.set i.toNat (m.getD i.toNat 0-1)))=_;rw[yQy s _ (by grind),ySf _ _ _ (by omega)];grind
theorem VW {B l}:∀i∈eN B l,0≤i∧i<(B.1.length:Int):=by
 intro i hi;obtain⟨x,hx,rfl⟩:=List.mem_map.1 hi;simp_all
theorem yYs:∀{m},o9 m→0≤mY m
 |[],_=>Int.le_refl 0
 |x::m,h=>by
  have h1:0≤x:=h 0;have h2:=yYs (m:=m) (fun i=>h (i+1));show 0≤x+mY m;omega
theorem yDt {B l}(hl:∀q∈l,yJ B.1.length q):∀(N:Nat) m,m.length=B.1.length→o9 m→mY m≤N→∃f n,kQ B l m f n∧n≤N
 |N,m,hm,h0,hN=>by
  by_cases c:eN B (vN l m)=[]
  ·exact⟨m,0,.stop c,by simp⟩
  ·have ht:=yQy (eN B (vN l m)) m (by rw[hm];exact VW);have hp:0<(eN B (vN l m)).length:=by grind
   have h1:=OQ hl hm h0;have h2:=yYs h1;obtain⟨N,rfl⟩:∃x,N=x+1:=⟨N-1,by omega⟩;obtain⟨f,n,h3,h4⟩:=yDt hl N _ ((uH _ _).trans hm) h1 (by omega);exact⟨f,n+1,.step c h3,by omega⟩
theorem VX l many:∀N,(mX l many N).length≤N
 |0=>Nat.le_refl _
 |N+1=>by
  unfold mX;have:=VX l many N;grind
theorem vU3 (l:List zH) i (hi:i<l.length) f:jR (l.take (i+1)) f=jR (l.take i) f+(if(l.getD i pd).2.1=f then 1 else 0):=by
 unfold jR;rw[Bm _ _ _ pd hi,List.length_append];unfold wY;grind
def gK (l:List zH)(n:Nat):AC:=(List.range n).map fun(i:Nat)=>((jR l i:Nat):Int)
theorem yJs l i:gK l (i+1)=gK l i++[((jR l i:Nat):Int)]:=by
 unfold gK;rw[List.range_succ,List.map_append];rfl
theorem xG l n:(gK l n).length=n:=by
 unfold gK;simp
theorem Ke:∀s m i,m.getD i 0-s.length≤(eY s m).getD i 0∧(eY s m).getD i 0≤m.getD i 0
 |[],m,i=>by simp[eY]
 |x::s,m,i=>by
  have h:=Ke s (m.set x.toNat (m.getD x.toNat 0-1)) i;rw[fm] at h;have e:eY (x::s) m=eY s (m.set x.toNat (m.getD x.toNat 0-1)):=rfl;rw[e,List.length_cons];by_cases c:x.toNat=i∧x.toNat<m.length
  ·grind
  omega
theorem yNz (s m:AC) i (hi:i<s.length):eY (s.take (i+1)) m=(eY (s.take i) m).set (s.getD i 0).toNat ((eY (s.take i) m).getD (s.getD i 0).toNat 0-1):=by
 unfold eY;rw[←fG s i 0 hi,List.foldl_append];rfl
theorem yQf g:∀n,zP (fun x=>x) ((List.range n).map g)=qH g n
 |0=>rfl
 |n+1=>by
  rw[List.range_succ,List.map_append,ma,yQf g n];show qH g n+(g n+0)=qH g n+g n;omega
theorem vCw l f:((jR l f:Nat):Int)=zP (fun p:zH=>if p.2.1=f then 1 else 0) l:=by
 induction l with
 |nil=>rfl
 |cons p l ih=>
  unfold jR wY at*
  show _=(if p.2.1=f then(1:Int) else 0)+zP _ l;grind
theorem vZw l n:mY (gK l n)≤l.length:=by
 unfold mY gK;rw[yQf (fun i:Nat=>((jR l i:Nat):Int)) n,sD (h:=fun j=>zP (fun p:zH=>if p.2.1=(j:Int) then 1 else 0) l) (fun j _=>vCw l j),Nz];have := (DI (A := 1) (l := l) (g := fun p : zH => qH (fun j => if p.2.1 = (j : Int) then 1 else 0) n) (fun p _=>by
  by_cases c:0≤p.2.1
  ·obtain⟨f,hf⟩:∃f:Nat,p.2.1=f:=⟨p.2.1.toNat,by omega⟩;have e:qH (fun j=>if p.2.1=(j:Int) then(1:Int) else 0) n=qH (fun j=>if j=f then 1 else 0) n:=by grind
   rw[e,A3];omega
  ·have e:qH (fun j=>if p.2.1=(j:Int) then(1:Int) else 0) n=qH (fun _=>0) n:=by grind
   rw[e,Uz];omega)).2
 omega
theorem yBh l n i:(gK l n).getD i 0=if i<n then((jR l i:Nat):Int) else 0:=by
 unfold gK;grind
theorem vI5 l f:jR l f≤l.length:=List.length_filter_le _ _
theorem OR {l}(hl:l.length≤1000) n:o9 (gK l n)∧∀i,(gK l n).getD i 0≤1000:=by
 refine⟨fun i=>?_,fun i=>?_⟩
 ·rw[yBh];omega
 ·rw[yBh];have:=vI5 l i;omega
theorem Kf {B:BT}{l}(hl:∀q∈l,yJ B.1.length q)(bP:l.length≤64) m:wC B.1.length (vN l m):=
 ⟨fun p hp=>hl p ((xF l m).subset hp),by have:=(xF l m).length_le;omega⟩
def yW (l:List zH)(t:Int):List zH:=l.filter (j6 t)
theorem Kg {n l t}(h:∀q∈l,yJ n q):∀q∈yW l t,yJ n q:=fun q hq=>h q (List.mem_filter.1 hq).1
theorem xH l t:(yW l t).length≤l.length:=List.length_filter_le _ _
theorem VY {B}(hb:qO B){l}(hl:∀q∈l,yJ B.1.length q)(bP:l.length≤64) t:
  ∃f n,kQ B (yW l t) (gK (yW l t) B.1.length) f n∧n≤(yW l t).length:=by
 have h1:=OR (l:=yW l t) (by have:=xH l t;omega) B.1.length;have h2:=vZw (yW l t) B.1.length;exact yDt (Kg hl) (yW l t).length _ (xG _ _) h1.1 (by omega)
def pb (l:List zH)(hs:List zH):List zH:=hs.foldl (fun l p=>eX l p.1) l
theorem vFx l id:(eX l id).length≤l.length∧List.Sublist (eX l id) l:=by
 unfold eX ij;cases vV l id with
 |none=>simp
 |some x=>exact⟨(uB l x).length_le,uB l x⟩
theorem OT:∀hs l,(pb l hs).length≤l.length∧List.Sublist (pb l hs) l
 |[],l=>⟨Nat.le_refl _,List.Sublist.refl _⟩
 |p::hs,l=>by
  obtain⟨h1,h2⟩:=OT hs (eX l p.1);obtain⟨h3,h4⟩:=vFx l p.1;exact⟨Nat.le_trans h1 h3,h2.trans h4⟩
theorem yYk (l hs:List zH) i (hi:i<hs.length):pb l (hs.take (i+1))=eX (pb l (hs.take i)) (hs.getD i pd).1:=by
 unfold pb;rw[←fG hs i pd hi,List.foldl_append];rfl
def FD (B:BT)(l hs:List zH)(r:List qY×EQ×AC×EQ×Int):(List (Int×Int×Int))×EQ×AC×EQ×(List zH)×(List zH):=
 bif !(decide (r.2.2.2.2=0)) then(B.1,B.2.1,B.2.2.1,B.2.2.2,l,[]) else(r.1,r.2.1,r.2.2.1,r.2.2.2.1,pb l hs,hs)
theorem VZ {k:Nat}{l:List zH}(hk:l.length<k)(hl:qQ l){many:AC}(h0:o9 many)(hm:∀i,many.getD i 0≤1000)(Fw:many.length≤1000):FE k l many=some (vN l many):=by
 unfold qQ at hl;unfold FE V0 V1;rw[qK (by omega) (by omega)];simp only[ak,ae];obtain ⟨s', h1, h2, h3, h4⟩ := vK (L := fun n i (s : AC × List zH) => FF k n l l.length i s.1 s.2) (N := l.length) (fun s => s) (fun i s => s.1.length = many.length ∧ (∀ f : Nat, f < many.length → s.1.getD f 0 = if many.getD f 0 ≤ (jR (l.take i) f : Nat) then 0 else many.getD f 0 - (jR (l.take i) f : Nat)) ∧ s.2 = mX l many i) (fun n s _=>by
  show FG k _ l l.length l.length s.1 s.2=_;unfold FG;simp only [qR, ab (Nat.lt_irrefl _), an]) (fun n i s hi hs=>by
  obtain⟨s1,s2,s3⟩:=hs;have dW:s.2.length≤i:=by rw[s3];exact VX l many i
  show∃s',FG k _ l l.length i s.1 s.2=_∧_;unfold FG V2;simp only[qC,qE hi (show l.length<9223372036854775808 by omega),qR,au,aa hi,ak,nR (show s.2.length≤1000 by omega)];have nJ:=fun f=>vU3 l i hi f
  have Iv:∀f:Nat,f<many.length→(l.getD i pd).2.1≠(f:Int)→(if many.getD f 0≤(jR (l.take (i+1)) f:Nat) then(0:Int) else many.getD f 0-(jR (l.take (i+1)) f:Nat))=if many.getD f 0≤(jR (l.take i) f:Nat) then 0 else many.getD f 0-(jR (l.take i) f:Nat):=by
   intro f hf bn;rw[nJ f,if_neg bn,Nat.add_zero]
  have skip:sR l many i=false→(∀f:Nat,f<many.length→(l.getD i pd).2.1=(f:Int)→many.getD f 0≤(jR (l.take i) f:Nat))→(s.1.length=many.length∧(∀f:Nat,f<many.length→s.1.getD f 0=if many.getD f 0≤(jR (l.take (i+1)) f:Nat) then 0 else many.getD f 0-(jR (l.take (i+1)) f:Nat))∧s.2=mX l many (i+1)):=by
   intro hh hz;refine⟨s1,fun f hf=>?_,?_⟩
   ·by_cases c:(l.getD i pd).2.1=(f:Int)
    ·have:=hz f hf c;rw[s2 f hf,if_pos this,nJ f,if_pos c,if_pos (by omega)]
    ·rw[Iv f hf c,s2 f hf]
   ·show _=mX l many i++_;rw[hh,s3];simp
  cases e1:decide ((l.getD i pd).2.1<0) with
  |true=>
   refine⟨s,rfl,skip ?_ ?_⟩
   ·unfold sR;rw[aX] at e1;rw[ab (show¬(l.getD i pd).2.1≥0 by omega)];rfl
   ·intro f hf c;rw[aX] at e1;omega
  |false=>
   cases e2:decide ((l.getD i pd).2.1≥((s.1.length:Nat):Int)) with
   |true=>
    refine⟨s,rfl,skip ?_ ?_⟩
    ·unfold sR;rw[aX] at e2;rw[ab (show¬(l.getD i pd).2.1<(many.length:Int) by omega),Bool.and_false];rfl
    ·intro f hf c;rw[aX] at e2;omega
   |false=>
    rw[decide_eq_false_iff_not] at e1 e2;obtain⟨f,hf⟩:∃f:Nat,(l.getD i pd).2.1=f:=⟨(l.getD i pd).2.1.toNat,by omega⟩;have zy:f<many.length:=by omega
    have eg:(l.getD i (0,(0,(0,(0,(0,(0,0))))))).2.1=f:=hf;simp only[an,eg,qC,au,s1,aa zy,ak];have Ax:sR l many i=decide (((jR (l.take i) f:Nat):Int)<many.getD f 0):=by
     unfold sR;rw[hf,aa (show(f:Int)≥0 by omega),aa (show(f:Int)<(many.length:Int) by omega),au];rfl
    have me:=s2 f zy;cases e3:decide (s.1.getD f 0<1) with
    |true=>
     rw[aX,me] at e3;have hle:many.getD f 0≤(jR (l.take i) f:Nat):=by
      by_cases c:many.getD f 0≤(jR (l.take i) f:Nat)
      ·exact c
      ·rw[if_neg c] at e3;omega
     refine⟨s,rfl,skip (by rw[Ax];exact ab (by omega)) ?_⟩;intro g hg c;have:g=f:=by omega
     subst this;exact hle
    |false=>
     rw[decide_eq_false_iff_not] at e3;have hgt:¬many.getD f 0≤(jR (l.take i) f:Nat):=by
      intro c;rw[me,if_pos c] at e3;omega
     rw[if_neg hgt] at me;have lW:=hm f;have hw:zA (s.1.getD f 0-1)=s.1.getD f 0-1:=zO (by omega) (by omega);refine⟨(s.1.set f (s.1.getD f 0-1),s.2++[l.getD i pd]),?_,?_,?_,?_⟩
     ·simp only[an,ae,ak,hw]
     ·rw[List.length_set];exact s1
     ·intro g hg;rw[fm];by_cases c:f=g
      ·subst c;rw[if_pos ⟨rfl,by omega⟩,nJ f,if_pos hf,me];by_cases d:many.getD f 0≤((jR (l.take i) f+1:Nat):Int)
       ·rw[if_pos d];omega
       ·rw[if_neg d];omega
      ·rw[if_neg (fun e=>c e.1),Iv g hg (by omega)];exact s2 g hg
     ·show s.2++[l.getD i pd]=mX l many i++_;rw[Ax,aa (by omega),s3];rfl) (s:=(many,[])) hk ⟨rfl,fun f hf=>by
   have:(jR (l.take 0) f:Nat)=0:=rfl;have h0f:=h0 f;rw[this];by_cases c:many.getD f 0≤((0:Nat):Int)
   ·rw[if_pos c];show many.getD f 0=0;omega
   ·rw[if_neg c];show many.getD f 0=_;omega,rfl⟩
 have ga:FF k k l l.length 0 many []=some s':=h1;rw[ga];simp only[ae,h4];rfl
theorem V3 {k l}(hk:l.length<k)(hl:qQ l) f:Kh k l f=some (l.filter (wY f)):=by
 unfold Kh V4;have := JM pd (L := fun n i s => Ki k n l l.length i f s) (wY f) id (fun n s=>by
  show FH k _ l l.length l.length f s=_;unfold FH;simp) (fun n i s hi hs=>by
  show FH k _ l l.length i f s=_;unfold FH V5;unfold qQ at hl;simp[qC,qE hi (by grind),nR (show s.length≤1000 by omega)];unfold wY;grind) hk
 simp_all
theorem vHi {k}{B:BT}{l}(hk:l.length<k)(hl:qQ l)(hn:B.1.length<k)(hn':B.1.length≤1000) s7:
  Bx k k s7 B.1.length 0 B.1 B.2.1 B.2.2.1 B.2.2.2 [] l=some (s7,B.1,B.2.1,B.2.2.1,B.2.2.2,gK l B.1.length,l):=by
 obtain ⟨s', h1, h2⟩ := vK (L := fun n i (s : AC) => Bx k n s7 B.1.length i B.1 B.2.1 B.2.2.1 B.2.2.2 s l) (N := B.1.length) (fun s => (s7, B.1, B.2.1, B.2.2.1, B.2.2.2, s, l)) (fun i s => s = gK l i) (fun n s _=>by
  show FI k _ s7 B.1.length B.1.length B.1 B.2.1 B.2.2.1 B.2.2.2 s l=_;unfold FI;simp) (fun n i s hi hs=>by
  refine⟨_,?_,(yJs l i).symm⟩;show FI k _ s7 B.1.length i B.1 B.2.1 B.2.2.1 B.2.2.2 s l=_;unfold FI;have hr:zQ (s.length+1) 8=true:=by rw[hs,xG];exact qK (by omega) (by omega)
  simp[aa hi,V3 hk hl,hr,qE hi (by grind)];rw[hs];rfl) (s:=[]) hn rfl
 simp_all
theorem vHs {k}{B:BT}{l:List zH}{s m}(hk:s.length<k)(hs:s.length≤1000)(fj:∀x∈s,0≤x∧x<(m.length:Int))(h0:o9 m)(hm:∀i,m.getD i 0≤1000) s7:
  FJ k k s7 s.length 0 B.1 B.2.1 B.2.2.1 B.2.2.2 m l s=some (s7,B.1,B.2.1,B.2.2.1,B.2.2.2,eY s m,l):=by
 obtain ⟨s', h1, h2⟩ := vK (L := fun n i (r : AC) => FJ k n s7 s.length i B.1 B.2.1 B.2.2.1 B.2.2.2 r l s) (N := s.length) (fun r => (s7, B.1, B.2.1, B.2.2.1, B.2.2.2, r, l)) (fun i r => r = eY (s.take i) m) (fun n r _=>by
  show FK k _ s7 s.length s.length B.1 B.2.1 B.2.2.1 B.2.2.2 r l s=_;unfold FK;simp) (fun n i r hi hr=>by
  refine⟨_,?_,(yNz s m i hi).symm⟩;show FK k _ s7 s.length i B.1 B.2.1 B.2.2.1 B.2.2.2 r l s=_;unfold FK;obtain⟨b1,b2⟩:=fj _ (gh (d:=0) hi);have tM:r.length=m.length:=by rw[hr,uH]
  have hb:zB (s.getD i 0) r.length=true:=jS b1 (by omega);have Uw:=Ke (s.take i) m (s.getD i 0).toNat;have Im:=h0 (s.getD i 0).toNat;have lW:=hm (s.getD i 0).toNat;have bj:(s.take i).length≤s.length:=by grind
  have hw:zA (r.getD (s.getD i 0).toNat 0-1)=r.getD (s.getD i 0).toNat 0-1:=by
   rw[hr];exact zO (by omega) (by omega)
  simp only[qR,qC,au,aa hi,ak,hb,hw,qE hi (by grind)];rw[hr]) (s:=m) hk rfl
 simp_all
theorem vYx {k}(hk:100<k){B}(hb:qO B){l}(hl:∀q∈l,yJ B.1.length q)(bP:l.length≤64){m f n}(h:kQ B l m f n):
  ∀N (s7:Int),m.length=B.1.length→o9 m→(∀i,m.getD i 0≤1000)→n<N→0≤s7→s7+n<1000000→
  Kj k N s7 B.1 B.2.1 B.2.2.1 B.2.2.2 m l=some (s7+n+1,f):=by
 induction h with
 |@stop m h=>
  intro N s7 hm h0 h1 hn hs oK;obtain⟨N,rfl⟩:∃x,N=x+1:=⟨N-1,by omega⟩;have gL:=hb.n6;show FL k _ s7 B.1 B.2.1 B.2.2.1 B.2.2.2 m l=_;unfold FL;have hS:=Vj hk hb (Kf hl bP m);have oG:Bk k B.1 B.2.1 B.2.2.1 B.2.2.2 (vN l m)=some (eN B (vN l m)):=hS;rw[VZ (by omega) (show qQ l by show l.length≤1000;omega) h0 h1 (by omega)];simp[ae];rw[oG,h];have w:zA (s7+1)=s7+1:=zO (by omega) (by omega);rw[w];simp
 |@step m f n h h' ih=>
  intro N s7 hm h0 h1 hn hs oK;obtain⟨N,rfl⟩:∃x,N=x+1:=⟨N-1,by omega⟩;have gL:=hb.n6;show FL k _ s7 B.1 B.2.1 B.2.2.1 B.2.2.2 m l=_;unfold FL;have hS:=Vj hk hb (Kf hl bP m);have oG:Bk k B.1 B.2.1 B.2.2.1 B.2.2.2 (vN l m)=some (eN B (vN l m)):=hS;rw[VZ (by omega) (show qQ l by show l.length≤1000;omega) h0 h1 (by omega)];simp only[ae];rw[oG];simp only[ae];have w:zA (s7+1)=s7+1:=zO (by omega) (by omega);have bn : decide ((((eN B (vN l m)).length : Nat) : Int) = 0) = false := ab (by
   simp_all)
  have dW:(eN B (vN l m)).length≤B.1.length:=by
   unfold eN uz;grind
  rw[bn,w];rw[vHs (by omega) (by omega) (by rw[hm];exact VW) h0 h1];simp;have V6:=OQ hl hm h0;have:=ih N (s7+1) ((uH _ _).trans hm) V6 (fun i=>by have:=(Ke (eN B (vN l m)) m i).2;have:=h1 i;omega) (by omega) (by omega) (by omega);rw[this]
  congr 2
  omega
theorem vMn {k}(hk:100<k){B}(hb:qO B){l}(hl:∀q∈l,yJ B.1.length q)(bP:l.length≤64) t {f n}(hn:n≤l.length)(h:kQ B (yW l t) (gK (yW l t) B.1.length) f n):
  OU k B.1 B.2.1 B.2.2.1 B.2.2.2 l t=some (f,((n+1:Nat):Int)):=by
 have gL:=hb.n6;have hr:=xH l t;have h1:=OR (l:=yW l t) (by omega) B.1.length;unfold OU;rw[Vn (by omega) (by show l.length≤1000;omega)];simp;have e:Bx k k 0 B.1.length 0 B.1 B.2.1 B.2.2.1 B.2.2.2 [] (l.filter (j6 t))=_:=vHi (k:=k) (B:=B) (l:=yW l t) (by omega) (by show(yW l t).length≤1000;omega) (by omega) (by omega) 0;rw[e];simp;rw[vYx hk hb (Kg hl) (by omega) h k 0 (xG _ _) h1.1 h1.2 (by omega) (by omega) (by omega)];simp
theorem vG9 {k}{C:BT}{l hs:List zH}(hl:l.length<k)(dM:l.length≤1000)(hk:hs.length<k)(hh:hs.length≤1000):
  By k k l hs.length 0 C.1 C.2.1 C.2.2.1 C.2.2.2 hs=some (pb l hs,C.1,C.2.1,C.2.2.1,C.2.2.2,hs):=by
 obtain ⟨s', h1, h2⟩ := vK (L := fun n i (s : List zH) => By k n s hs.length i C.1 C.2.1 C.2.2.1 C.2.2.2 hs) (N := hs.length) (fun s => (s, C.1, C.2.1, C.2.2.1, C.2.2.2, hs)) (fun i s => s = pb l (hs.take i)) (fun n s _=>by
  show FM k _ s hs.length hs.length C.1 C.2.1 C.2.2.1 C.2.2.2 hs=_;unfold FM;simp) (fun n i s hi hr=>by
  refine⟨_,?_,(yYk l hs i hi).symm⟩;show FM k _ s hs.length i C.1 C.2.1 C.2.2.1 C.2.2.2 hs=_;unfold FM;have dW:=(OT (hs.take i) l).1;rw[←hr] at dW⊢;simp[qC,aa hi,Bq (show s.length<k by omega) (show qQ s by show s.length≤1000;omega),qE hi (by grind)];rfl) (s:=l) hk rfl
 simp_all
theorem V7 {k:Nat}(hk:100<k){B:BT}(hb:qO B){l:List zH}(hl:∀q∈l,yJ B.1.length q)(bP:l.length≤64)(t:Int){f:AC}{n:Nat}(hn:n≤l.length)(h:kQ B (yW l t) (gK (yW l t) B.1.length) f n)
  {r:List qY×EQ×AC×EQ×Int} (hr:pZ k B.1 B.2.1 B.2.2.1 B.2.2.2 (vN (yW l t) f)=some r):Bz k B.1 B.2.1 B.2.2.1 B.2.2.2 l t=some (FD B l (vN (yW l t) f) r):=by
 have gL:=hb.n6;have tM:=xH l t;have h1:=OR (l:=yW l t) (by omega) B.1.length;have hle:=h.le (xG _ _);have h0:=h.nonneg (Kg hl) (xG _ _) h1.1;have zy:f.length=B.1.length:=hle.1.trans (xG _ _);have hf:∀i,f.getD i 0≤1000:=fun i=>by
  by_cases c:i<(gK (yW l t) B.1.length).length
  ·have:=hle.2 i c;have:=h1.2 i;omega
  ·rw[List.getD_eq_getElem?_getD,List.getElem?_eq_none (by have:=hle.1;omega)];show(0:Int)≤1000;omega
 have OV:=(xF (yW l t) f).length_le;unfold Bz;rw[vMn hk hb hl bP t hn h,Vn (by omega) (by show l.length≤1000;omega)];simp only[ae];have e:FE k (l.filter (j6 t)) f=_:=VZ (k:=k) (l:=yW l t) (by omega) (by show(yW l t).length≤1000;omega) h0 hf (by omega);rw[e];simp only[ae];rw[hr];simp only[ae];unfold FD;cases decide (r.2.2.2.2=0) with
 |false=>rfl
 |true=>
  simp only[aB,an];have e2:By k k l ((List.length (vN (yW l t) f):Nat):Int) 0 r.1 r.2.1 r.2.2.1 r.2.2.2.1 (vN (yW l t) f)=_:=vG9 (C:=(r.1,r.2.1,r.2.2.1,r.2.2.2.1)) (by omega) (by omega) (by omega) (by omega);rw[e2];rfl
theorem vJ8 {l x}(hx:x<l.length):List.Perm (l.getD x pd::yG l x) l:=by
 unfold yG;have h:List.Perm (l.getD x pd::(l.take x++l.drop (x+1))) (l.take x++l.getD x pd::l.drop (x+1)):=by grind
 simp_all
theorem OW {l}(hd:qL l){p}(hp:p∈l):List.Perm (p::eX l p.1) l:=by
 obtain⟨x,hx⟩:=Ot hp;have h:=kO hx;have e:l.getD x pd=p:=hd.eq_of (by grind) hp h.2;unfold eX ij;have:=vJ8 h.1;simp_all
theorem gJ.perm {k t B C l done m}(h:gJ k t B l done C m)(hd:qL l):List.Perm (done++m) l:=by
 induction h with
 |stop _=>rfl
 |step h _ ih=>
  have hp:=Fu (Bv h).1;exact((ih (List.Pairwise.sublist (uF hp).2 hd)).cons _).trans (OW hd hp)
theorem jQ.perm {k t B C l done m}(h:jQ k t B l done C m)(hd:qL l):List.Perm (done++m) l:=by
 induction h with
 |stop _=>rfl
 |step h _ ih=>
  obtain⟨hp,hq,o6,_⟩:=Fy h;obtain⟨h1,h2⟩:=Fz hd hp hq o6;have wi:qL (eX _ _):=List.Pairwise.sublist (uF hp).2 hd;have oY:=VR hp hq (yW6 hd hp hq o6);exact(((ih (List.Pairwise.sublist h2 hd)).cons _).cons _).trans (((OW wi oY).cons _).trans (OW hd hp))
theorem gJ.final {k t B C l done m}(h:gJ k t B l done C m):jW k C (vR m t)=none:=by
 induction h with
 |stop h=>exact h
 |step _ _ ih=>exact ih
theorem jQ.final {k t B C l done m}(h:jQ k t B l done C m):fy k C m t=none:=by
 induction h with
 |stop h=>exact h
 |step _ _ ih=>exact ih
theorem qL.perm {l m}(h:qL l)(hp:List.Perm m l):qL m:=(List.Perm.pairwise_iff (R:=fun p q:zH=>p.1≠q.1) (by grind) hp.symm).1 h
inductive mf (k:Nat) (t:Int):BT→List zH→List zH→BT→List zH→Prop
 |stop {B C:BT} {l m d:List zH} (h1:gJ k t B l d C m) (h2:fy k C m t=none):mf k t B l d C m
 |step {B C D E:BT} {l m n o d e f:List zH} (h1:gJ k t B l d C m) (h2:jQ k t C m e D n) (ne:e≠[]) (h':mf k t D n f E o):mf k t B l (d++e++f) E o
theorem mf.perm {k t B C l done m}(h:mf k t B l done C m)(hd:qL l):List.Perm (done++m) l:=by
 induction h with
 |stop h1 _=>exact h1.perm hd
 |@step B C D E l m n o d e f h1 h2 ne h' ih=>
  have p1:=h1.perm hd;have hd1:=hd.perm p1;have hm:qL m:=(List.pairwise_append.1 hd1).2.1;have p2:=h2.perm hm;have hn:qL n:=(List.pairwise_append.1 (hm.perm p2)).2.1;grind
theorem mf.final {k t B C l done m}(h:mf k t B l done C m):jW k C (vR m t)=none∧fy k C m t=none:=by
 induction h with
 |stop h1 h2=>exact⟨h1.final,h2⟩
 |step _ _ _ _ ih=>exact ih
theorem gJ.none {k t B C l done m}(h:gJ k t B l done C m)(hn:jW k B (vR l t)=none):done=[]∧C=B∧m=l:=by
 cases h with
 |stop _=>simp
 |step h _=>simp_all
theorem jQ.none {k t B C l done m}(h:jQ k t B l done C m)(hn:fy k B l t=none):done=[]∧C=B∧m=l:=by
 cases h with
 |stop _=>simp
 |step h _=>simp_all
theorem jQ.nil {k t B C l m}(h:jQ k t B l [] C m):fy k B l t=Option.none∧C=B∧m=l:=by
 cases h with
 |stop h=>simp_all
theorem mf.none {k t B C l done m}(h:mf k t B l done C m)(h1:jW k B (vR l t)=Option.none)(h2:fy k B l t=Option.none):done=[]∧C=B∧m=l:=by
 cases h with
 |stop g1 _=>exact g1.none h1
 |step g1 g2 ne _=>
  obtain⟨rfl,rfl,rfl⟩:=g1.none h1;obtain⟨rfl,_,_⟩:=g2.none h2;simp_all
theorem yU1 {k:Nat}(hk:200≤k)(t:Int):∀(n:Nat) (B:BT) (l r:List zH),qO B→qL l→l.length≤100→l.length<n→r.length+l.length≤900→
  ∃(C:BT) (m done:List zH),Kk k n t l B.1 B.2.1 B.2.2.1 B.2.2.2 r=some (m,C.1,C.2.1,C.2.2.1,C.2.2.2,r++done)∧mf k t B l done C m∧qO C∧C.1.length=B.1.length∧List.Sublist m l
 |0,_,_,_,_,_,_,h,_=>absurd h (Nat.not_lt_zero _)
 |n+1,B,l,r,hb,hd,hl,hn,hr=>by
  obtain⟨C,m,d,f1,f2,f3,f4,f5⟩:=vMb hk hb hd hl t;have p1:=f2.perm hd;have l1:=p1.length_eq;rw[List.length_append] at l1;have hm:qL m:=List.Pairwise.sublist f5 hd;obtain⟨D,o,e,g1,g2,g3,g4,g5⟩:=vFd hk f3 hm (by omega) t;have p2:=g2.perm hm;have l2:=p2.length_eq;rw[List.length_append] at l2;have r1:zQ (r.length+d.length) 56=true:=qK (by omega) (by omega);have r2:zQ ((r++d).length+e.length) 56=true:=qK (by rw[List.length_append];omega) (by grind);show∃C' m' abk,OX k _ t l B.1 B.2.1 B.2.2.1 B.2.2.2 r=_∧_;unfold OX;rw[f1];simp only[ae];rw[g1];simp only[ae,r1,r2,ak];cases e with
  |nil=>
   obtain⟨h1,h2,h3⟩:=g2.nil;subst h2;subst h3;refine⟨D,o,d,?_,.stop f2 h1,f3,f4,f5⟩;simp
  |cons p e=>
   have bj:o.length+(e.length+1)=m.length:=by simp at l2;omega
   obtain⟨E,q,f,k1,k2,k3,k4,k5⟩:=yU1 hk t n D o (r++d++(p::e)) g3 (List.Pairwise.sublist g5 hm) (by omega) (by omega) (by simp;omega);refine⟨E,q,d++(p::e)++f,?_,.step f2 g2 (by simp) k2,k3,k4.trans (g4.trans f4),k5.trans (g5.trans f5)⟩;grind
theorem FN {k}(hk:200≤k){B}(hb:qO B){l}(hd:qL l)(hl:l.length≤100) t:
  ∃(C:BT) (m done:List zH),Kl k B.1 B.2.1 B.2.2.1 B.2.2.2 l t=some (C.1,C.2.1,C.2.2.1,C.2.2.2,m,done)∧mf k t B l done C m∧qO C∧C.1.length=B.1.length∧List.Sublist m l:=by
 obtain⟨C,m,done,h1,h3⟩:=yU1 hk t k B l [] hb hd hl (by omega) (by grind);refine⟨C,m,done,?_,h3⟩;unfold Kl;simp_all
theorem yUi:∀hs l,qL l→qL hs→(∀q∈hs,q∈l)→List.Perm (hs++pb l hs) l
 |[],l,_,_,_=>List.Perm.refl _
 |p::hs,l,hd,hh,fj=>by
  have hp:=fj p (by simp);obtain⟨h1,h2⟩:=uF hp;have hc:=List.pairwise_cons.1 hh;have:=yUi hs (eX l p.1) (List.Pairwise.sublist h2 hd) hc.2 (fun q hq=>VR hp (by grind) (by grind));exact(this.cons p).trans (OW hd hp)
theorem vE7 {k}(hk:100<k){B}(hb:qO B):pZ k B.1 B.2.1 B.2.2.1 B.2.2.2 []=some (B.1,B.2.1,B.2.2.1,B.2.2.2,0):=by
  obtain⟨r,h1,h3⟩:=N5 hk hb (l:=[]) (by simp);have aW:wC B.1.length []:=⟨by simp,by simp⟩;obtain⟨a',p',h4,h5⟩:=h3.1 aW;have ao:uv B.1.length B.1 B.2.2.2 [] B.1 B.2.2.2:={
    al:=rfl
    acct:=fun i hi=>by
      have hr:0≤(B.1.getD i ad).2.2:=by
        have:=hb.nums.res i hi;omega
      show B.1.getD i ad=((B.1.getD i ad).1+0,(B.1.getD i ad).2.1,jD (B.1.getD i ad).2.2 0);have e:jD (B.1.getD i ad).2.2 0=(B.1.getD i ad).2.2:=by
        unfold jD;omega
      simp_all
    pl:=hb.pl
    pr:=hb.pr
    cell:=fun i hi j hj=>by show _=_+0-0;omega}
  obtain⟨e1,e2⟩:=h4.same ao;subst e1;subst e2;rw[NT.2 hb] at h5;simp_all
theorem V8 {k:Nat}(hk:200≤k){B:BT}(hb:qO B){l:List zH}(hd:qL l)(hl:∀q∈l,yJ B.1.length q)(bP:l.length≤64)(t:Int):
  ∃(C:BT) (m done:List zH),Bz k B.1 B.2.1 B.2.2.1 B.2.2.2 l t=some (C.1,C.2.1,C.2.2.1,C.2.2.2,m,done)∧qO C∧C.1.length=B.1.length∧List.Sublist m l∧List.Perm (done++m) l∧(done=[]→C=B∧m=l):=by
 obtain⟨f,n,h,hn⟩:=VY hb hl bP t;have tM:=xH l t;have cO:=xF (yW l t) f;have OV:=cO.length_le;obtain⟨r,h1,h2,h3⟩:=Ft (k:=k) (by omega) hb (l:=vN (yW l t) f) (by omega);have hs:=OI hb h3;have g1:=V7 (k:=k) (by omega) hb hl bP t (by omega) h h1;unfold FD at g1;cases c:decide (r.2.2.2.2=0) with
 |false=>
  rw[c] at g1;exact⟨B,l,[],g1,hb,rfl,List.Sublist.refl _,List.Perm.refl _,fun _=>⟨rfl,rfl⟩⟩
 |true=>
  rw[c] at g1;have dW:List.Sublist (vN (yW l t) f) l:=cO.trans List.filter_sublist;have hal:r.1.length=B.1.length:=by
   by_cases c':wC B.1.length (vN (yW l t) f)
   ·obtain⟨a',p',x,e⟩:=h3.1 c';cases hi:mV a' B.2.1 B.2.2.1 p' with
    |false=>rw[hi] at e;subst e;rfl
    |true=>rw[hi] at e;subst e;exact x.al
   ·rw[h3.2 c']
  refine⟨(r.1,r.2.1,r.2.2.1,r.2.2.2.1),pb l (vN (yW l t) f),vN (yW l t) f,g1,hs.2.1,hal,(OT _ _).2,yUi _ _ hd (List.Pairwise.sublist dW hd) (fun q hq=>dW.subset hq),fun e=>?_⟩;rw[e] at h1⊢;rw[vE7 (by omega) hb] at h1;cases h1;exact⟨rfl,rfl⟩
theorem yN0 {k}(hk:200≤k){B}(hb:qO B){l}(hd:qL l)(hl:∀q∈l,yJ B.1.length q)(bP:l.length≤64) t all:
  ∃(C:BT) (m done:List zH),uJ k B.1 B.2.1 B.2.2.1 B.2.2.2 l t all=some (C.1,C.2.1,C.2.2.1,C.2.2.2,m,done)∧qO C∧C.1.length=B.1.length∧List.Sublist m l∧List.Perm (done++m) l∧jW k C (vR m t)=none∧fy k C m t=none:=by
 obtain⟨C,m,d,f1,f2,f3,f4,f5⟩:=FN hk hb hd (by omega) t;have p1:=f2.perm hd;have l1:=p1.length_eq;rw[List.length_append] at l1;unfold uJ;rw[f1];simp only[ae];cases all with
 |false=>exact⟨C,m,d,rfl,f3,f4,f5,p1,f2.final⟩
 |true=>
  have hm:qL m:=List.Pairwise.sublist f5 hd;obtain⟨D,n,x,g1,g2,g3,g4,g5,g6⟩:=V8 hk f3 hm (by grind) (by omega) t;have l2:=g5.length_eq;rw[List.length_append] at l2;rw[g1];simp only[ae];cases x with
  |nil=>
   obtain⟨rfl,rfl⟩:=g6 rfl;exact⟨D,n,d,rfl,f3,f4,f5,p1,f2.final⟩
  |cons p x=>
   have e1:decide ((((p::x).length:Nat):Int)=0)=false:=by grind
   have hn:qL n:=List.Pairwise.sublist g4 hm;obtain⟨E,o,y,k1,k2,k3,k4,k5⟩:=FN hk g2 hn (by omega) t;have p3:=k2.perm hn;have l3:=p3.length_eq;rw[List.length_append] at l3;have r1:zQ (d.length+(p::x).length) 56=true:=qK (by omega) (by omega);have r2:zQ ((d++(p::x)).length+y.length) 56=true:=qK (by simp at l2⊢;omega) (by simp at l2⊢;omega);rw[k1];simp only[ae,r1,r2];refine⟨E,o,d++(p::x)++y,rfl,k3,k4.trans (g3.trans f4),k5.trans (g4.trans f5),?_,k2.final⟩;have e2:d++(p::x)++y++o=d++((p::x)++(y++o)):=by simp
   rw[e2];exact((p3.append_left (p::x)).append_left d).trans ((g5.append_left d).trans p1)
abbrev qT:=Int×Int×Int×Int×Int×Int×Int×Int
abbrev od:qT:=(0,(0,(0,(0,(0,(0,(0,0)))))))
instance BA:DecidableEq qT:=@instDecidableEqProd Int (Int×Int×Int×Int×Int×Int×Int) inferInstance (@instDecidableEqProd Int (Int×Int×Int×Int×Int×Int) inferInstance inferInstance)
def fq (to:Int)(p:zH):qT:=(to,18,p.1,p.2.1,p.2.2.1,p.2.2.2.1,0,0)
def sS (p:zH):List qT:=[fq p.2.1 p,fq p.2.2.1 p]
def yZ:List zH→List qT
 |[]=>[]
 |p::l=>sS p++yZ l
theorem yZa:∀l m,yZ (l++m)=yZ l++yZ m
 |[],_=>rfl
 |p::l,m=>by
  show sS p++yZ (l++m)=sS p++yZ l++yZ m;rw[yZa l m,List.append_assoc]
theorem BB:∀l,(yZ l).length=2*l.length
 |[]=>rfl
 |p::l=>by
  show(sS p++yZ l).length=_;rw[List.length_append,BB l];simp[sS];omega
theorem yW3 (l:List zH) i (hi:i<l.length):yZ (l.take (i+1))=yZ (l.take i)++sS (l.getD i pd):=by
 rw[←fG l i pd hi,yZa];rfl
theorem xI {n}(h:n≤1000):zQ (n+1) 64=true:=qK (by omega) (by omega)
theorem vEo {k}(hk:3≤k)(s8:List zH) s9 ax (r:List qT)(hr:r.length≤900) p:
  xJ k k s8 s9 ax 2 0 r p.1 p.2.1 p.2.2.1 p.2.2.2.1 p.2.2.2.2.1 p.2.2.2.2.2.1 p.2.2.2.2.2.2 [p.2.1,p.2.2.1]=some (s8,s9,ax,r++sS p):=by
 obtain⟨n,rfl⟩:∃n,k=n+3:=⟨k-3,by omega⟩;have e1:zQ (r.length+1) 64=true:=xI (by omega);have e2:zQ ((r++[fq p.2.1 p]).length+1) 64=true:=xI (by grind);have h1:qg (n+3) p.2.1 18 [p.1,p.2.1,p.2.2.1,p.2.2.2.1]=some (fq p.2.1 p):=rfl;have h2:qg (n+3) p.2.2.1 18 [p.1,p.2.1,p.2.2.1,p.2.2.2.1]=some (fq p.2.2.1 p):=rfl;have w0:zA (0+1)=1:=by decide
 have w1:zA (1+1)=2:=by decide
 show xK (n+3) (xJ (n+3) (n+2)) s8 s9 ax 2 0 r p.1 p.2.1 p.2.2.1 p.2.2.2.1 p.2.2.2.2.1 p.2.2.2.2.2.1 p.2.2.2.2.2.2 [p.2.1,p.2.2.1]=_;unfold xK;have g0:[p.2.1,p.2.2.1].getD (Int.toNat 0) 0=p.2.1:=rfl;have b0:zB 0 [p.2.1,p.2.2.1].length=true:=rfl;have d0:decide ((0:Int)<2)=true:=rfl;simp[e1];show xK (n+3) (xJ (n+3) (n+1)) s8 s9 ax 2 1 (r++[fq p.2.1 p]) p.1 p.2.1 p.2.2.1 p.2.2.2.1 p.2.2.2.2.1 p.2.2.2.2.2.1 p.2.2.2.2.2.2 [p.2.1,p.2.2.1]=_;unfold xK;have g1:[p.2.1,p.2.2.1].getD (Int.toNat 1) 0=p.2.2.1:=rfl;have b1:zB 1 [p.2.1,p.2.2.1].length=true:=rfl;have d1:decide ((1:Int)<2)=true:=rfl;simp only[ak,ae,e2];show xK (n+3) (xJ (n+3) n) s8 s9 ax 2 2 (r++[fq p.2.1 p]++[fq p.2.2.1 p]) p.1 p.2.1 p.2.2.1 p.2.2.2.1 p.2.2.2.2.1 p.2.2.2.2.2.1 p.2.2.2.2.2.2 [p.2.1,p.2.2.1]=_;unfold xK;have d2:decide ((2:Int)<2)=false:=rfl;rw[d2,List.append_assoc];rfl
theorem Wa {k}{l:List zH}(hk:l.length+3≤k)(hl:l.length≤400):OY k l=some (yZ l):=by
 unfold OY;obtain ⟨s', h1, h2⟩ := vK (L := fun n i (s : List qT) => Km k n l l.length i s) (N := l.length) (fun s => s) (fun i s => s = yZ (l.take i)) (fun n s _=>by
  show FO k _ l l.length l.length s=_;unfold FO;simp) (fun n i s hi hs=>by
  refine⟨_,?_,(yW3 l i hi).symm⟩;show FO k _ l l.length i s=_;unfold FO;have dW:s.length≤900:=by
   rw[hs,BB,List.length_take];omega
  have h2:=vEo (k:=k) (by omega) l l.length i s dW (l.getD i pd);simp only[qC,qR,au,aa hi,ak];rw[h2];simp[qE hi (by grind)];rw[hs]) (s:=[]) (show l.length<k by omega) rfl
 simp_all
theorem Wb {k}{l:List zH}(hk:l.length+5≤k)(hl:l.length≤400):OZ k l=some (yZ l):=by
 unfold OZ;obtain ⟨s', h1, h2⟩ := vK (L := fun n i (s : List qT) => Kn k n l i s) (N := l.length) (fun s => s) (fun i s => s = yZ (l.take i)) (fun n s _=>by
  show FP k _ l l.length s=_;unfold FP;simp) (fun n i s hi hs=>by
  refine⟨_,?_,(yW3 l i hi).symm⟩;show FP k _ l i s=_;unfold FP;have dW:s.length≤900:=by
   rw[hs,BB,List.length_take];omega
  obtain⟨j,rfl⟩:∃j,k=j+5:=⟨k-5,by omega⟩;have e2:zQ (s.length+2) 64=true:=qK (by omega) (by omega);simp[qC,aa hi,e2,qE hi (by grind)];rw[hs];rfl) (s:=[]) (show l.length<k by omega) rfl
 simp_all
theorem eq8 (p q:qT):((decide (p.1=q.1))&&((decide (p.2.1=q.2.1))&&((decide (p.2.2.1=q.2.2.1))&&((decide (p.2.2.2.1=q.2.2.2.1))&&((decide (p.2.2.2.2.1=q.2.2.2.2.1))&&((decide (p.2.2.2.2.2.1=q.2.2.2.2.2.1))&&((decide (p.2.2.2.2.2.2.1=q.2.2.2.2.2.2.1))&&(decide (p.2.2.2.2.2.2.2=q.2.2.2.2.2.2.2)))))))))=decide (p=q):=by
 grind
theorem vEt {k}{a b:List qT}(hk:a.length<k)(hl:a.length<9223372036854775808):pc k a b=some (decide (a=b)):=by
 unfold pc;by_cases hlen:a.length=b.length
 case neg=>
  have e:decide (((a.length:Nat):Int)=((b.length:Nat):Int))=false:=by grind
  have:a≠b:=by grind
  simp_all
 have e:decide (((a.length:Nat):Int)=((b.length:Nat):Int))=true:=by grind
 have := lu (L := fun n i => Ko k n a b i) (N := a.length) (fun i => decide (a.getD i od = b.getD i od)) (.inl ()) (.inr false) (fun n=>by
  show FQ k _ a b a.length=_;unfold FQ;simp) (fun n i hi=>by
  show FQ k _ a b i=_;unfold FQ;have e8:=eq8 (a.getD i od) (b.getD i od);simp only[qC,qE hi hl];simp_all) hk
 rw[this,Jo od hlen];grind
def fH (q:zH)(o:qT):Bool:=decide (o.2.2.1=q.1)&&(decide (o.1=q.2.1)&&(decide (o.2.1=21)||(decide (o.2.1=22)||decide (o.2.1=18))))
def kR (q:zH)(o:List qT):Nat:=o.countP (fH q)
theorem BC q a b:kR q (a++b)=kR q a+kR q b:=List.countP_append
theorem Wc {f:zH→Bool}{q:zH}:∀{ps:List zH},qL ps→q∈ps→f q=true→(∀p∈ps,f p=true→p.1=q.1)→ps.countP f=1
 |[],_,h,_,_=>by cases h
 |p::ps,hd,hq,hf,hu=>by
  have hc:=List.pairwise_cons.1 hd;rw[List.countP_cons];rcases List.mem_cons.1 hq with rfl|hq
  ·rw[hf,if_pos rfl];have:ps.countP f=0:=by
    rw[List.countP_eq_zero];intro r hr AO;exact hc.1 r hr (hu r (List.mem_cons_of_mem _ hr) AO).symm
   omega
  ·have:f p=false:=by
    cases h:f p with
    |false=>rfl
    |true=>exact absurd (hu p (List.mem_cons_self ..) h) (hc.1 q hq)
   rw[this,Wc hc.2 hq hf (fun r hr=>hu r (List.mem_cons_of_mem _ hr))];rfl
def wP (kd:Int)(p:zH):qT:=(p.2.1,kd,p.1,0,0,0,0,0)
theorem FR {kd:Int}(hk:kd=21∨kd=22){q:zH}{ps:List zH}(hd:qL ps):(q∈ps→kR q (ps.map (wP kd))=1)∧((∀p∈ps,p.1≠q.1)→kR q (ps.map (wP kd))=0):=by
 unfold kR;rw[List.countP_map];constructor
 ·intro h;apply Wc hd h
  ·show fH q (wP kd q)=true;unfold fH wP;rcases hk with rfl|rfl<;>simp
  ·intro p hp hf;have eg:fH q (wP kd p)=true:=hf;unfold fH wP at eg;rw[bb,aX] at eg;exact eg.1
 ·intro h;rw[List.countP_eq_zero];intro p hp hf;have eg:fH q (wP kd p)=true:=hf;unfold fH wP at eg;rw[bb,aX] at eg;exact h p hp eg.1
theorem yKw q:∀d,kR q (yZ d)=d.countP (fun p=>fH q (fq p.2.1 p))+d.countP (fun p=>fH q (fq p.2.2.1 p))
 |[]=>rfl
 |p::d=>by
  show kR q (sS p++yZ d)=_;rw[BC,yKw q d,List.countP_cons,List.countP_cons];have e:kR q (sS p)=(if fH q (fq p.2.1 p)=true then 1 else 0)+(if fH q (fq p.2.2.1 p)=true then 1 else 0):=by
   unfold kR sS;grind
  omega
theorem O0 {n:Nat}{q:zH}{d:List zH}(hd:qL d)(hm:∀p∈d,yJ n p):(q∈d→kR q (yZ d)=1)∧((∀p∈d,p.1≠q.1)→kR q (yZ d)=0):=by
 have h2:∀(l:List zH),qL l→(∀p∈l,yJ n p)→(q∈l∨∀p∈l,p.1≠q.1)→l.countP (fun p=>fH q (fq p.2.2.1 p))=0:=by
  intro l oV Fw hq;rw[List.countP_eq_zero];intro p hp hf;have eg:fH q (fq p.2.2.1 p)=true:=hf;unfold fH fq at eg;rw[bb,bb,aX,aX] at eg;rcases hq with hq|hq
  ·have:=oV.eq_of hp hq eg.1;subst this;exact(Fw p hp).ne eg.2.1.symm
  ·exact hq p hp eg.1
 rw[yKw];constructor
 ·intro h;rw[h2 d hd hm (.inl h),Wc hd h]
  ·show fH q (fq q.2.1 q)=true;unfold fH fq;simp
  ·intro p hp hf;have eg:fH q (fq p.2.1 p)=true:=hf;unfold fH fq at eg;rw[bb,aX] at eg;exact eg.1
 ·intro h;rw[h2 d hd hm (.inr h)];have:d.countP (fun p=>fH q (fq p.2.1 p))=0:=by
   rw[List.countP_eq_zero];intro p hp hf;have eg:fH q (fq p.2.1 p)=true:=hf;unfold fH fq at eg;rw[bb,aX] at eg;exact h p hp eg.1
  omega
def xL (B:BT)(i:Nat):qT:=((i:Int),23,(B.1.getD i ad).1,0,0,0,0,0)
def iJ (B:BT)(n:Nat):List qT:=(List.range n).map (xL B)
theorem vAs q B n:kR q (iJ B n)=0:=by
 unfold kR iJ;rw[List.countP_map,List.countP_eq_zero];intro i _ hf;have eg:fH q (xL B i)=true:=hf;unfold fH xL at eg;simp at eg
theorem yP0 B i:iJ B (i+1)=iJ B i++[xL B i]:=by
 unfold iJ;rw[List.range_succ,List.map_append];rfl
theorem yRn {α β:Type}(f:α→β)(l:List α) i d (h:i<l.length):(l.take (i+1)).map f=(l.take i).map f++[f (l.getD i d)]:=by
 rw[←fG l i d h,List.map_append];rfl
theorem yAz {k B}(hB:B.1.length≤6)(hk:200≤k){m:List zH}(hm:m.length≤100) t pr ho ids to ov:
  O1 k t B.1 B.2.1 B.2.2.1 B.2.2.2 pr ho m ids to ov=some (t,B.1,B.2.1,B.2.2.1,B.2.2.2,pr,ho,[],ids,to,true,m.map (wP 22)++iJ B B.1.length):=by
 unfold O1;obtain ⟨s', h1, h2⟩ := vK (L := fun n i (s : List qT) => FT k n m m.length i t B.1 B.2.1 B.2.2.1 B.2.2.2 pr ho m ids to ov 0 0 false s) (N := m.length) (fun s => (t, B.1, B.2.1, B.2.2.1, B.2.2.2, pr, ho, m, ids, to, ov, 0, 0, false, s)) (fun i s => s = (m.take i).map (wP 22)) (fun n s _=>by
  show FU k _ m m.length m.length t B.1 B.2.1 B.2.2.1 B.2.2.2 pr ho m ids to ov 0 0 false s=_;unfold FU;simp) (fun n i s hi hs=>by
  refine⟨_,?_,(yRn (wP 22) m i pd hi).symm⟩;show FU k _ m m.length i t B.1 B.2.1 B.2.2.1 B.2.2.2 pr ho m ids to ov 0 0 false s=_;unfold FU;have dW:s.length≤900:=by grind
  have FV:qg k (m.getD i pd).2.1 22 [(m.getD i pd).1]=some (wP 22 (m.getD i pd)):=rfl;simp only[qC,qR,au,aa hi,ak,FV,ae,xI (show s.length≤1000 by omega),qE hi (by grind)];rw[hs]) (s:=[]) (show m.length<k by omega) rfl
 have ga:FT k k m m.length 0 t B.1 B.2.1 B.2.2.1 B.2.2.2 pr ho m ids to ov 0 0 false []=_:=h1;rw[ga,h2,List.take_length];obtain ⟨s2, g1, g2⟩ := vK (L := fun n i (s : List qT) => Kp k n B.1 B.1.length i t B.1 B.2.1 B.2.2.1 B.2.2.2 pr ho m ids to ov 0 0 false s) (N := B.1.length) (fun s => (t, B.1, B.2.1, B.2.2.1, B.2.2.2, pr, ho, m, ids, to, ov, 0, 0, false, s)) (fun i s => s = m.map (wP 22) ++ iJ B i) (fun n s _=>by
  show FW k _ B.1 B.1.length B.1.length t B.1 B.2.1 B.2.2.1 B.2.2.2 pr ho m ids to ov 0 0 false s=_;unfold FW;simp) (fun n i s hi hs=>by
  refine⟨_,?_,(show m.map (wP 22)++iJ B i++[xL B i]=m.map (wP 22)++iJ B (i+1) by rw[yP0,List.append_assoc])⟩;show FW k _ B.1 B.1.length i t B.1 B.2.1 B.2.2.1 B.2.2.2 pr ho m ids to ov 0 0 false s=_;unfold FW;have dW:s.length≤900:=by
   rw[hs,List.length_append,List.length_map];unfold iJ;grind
  have FV:qg k i 23 [(B.1.getD i ad).1]=some (xL B i):=rfl;have ho3:qg k i 23 [(B.1.getD i (0,0,0)).1]=some (xL B i):=FV;simp only[qC,qR,au,aa hi,ak,ho3,ae,xI (show s.length≤1000 by omega),qE hi (by grind)];rw[hs]) (s:=m.map (wP 22)) (show B.1.length<k by omega) (by show _=_++[];simp)
 simp_all
def vD (t:Int)(p:zH):Bool:=decide (t>p.2.2.2.2.2.2)
theorem yS1 {k:Nat}(hk:200≤k){m:List zH}(hm:m.length≤100)(pa:Int)(as:List (Int×Int))(cu cl pe t:Int)(B:BT)(pr:AC)(ho:EQ)(ids:AC)(to:Int)(ov:Bool):
  FX k k m m.length 0 pa as cu cl pe t B.1 B.2.1 B.2.2.1 B.2.2.2 pr ho m ids to ov 0 0 false [] []=some (pa,as,cu,cl,pe,t,B.1,B.2.1,B.2.2.1,B.2.2.2,pr,ho,m,ids,to,ov,0,0,false,(m.filter (vD t)).map (wP 21),m.filter (fun p=> !vD t p)):=by
 obtain ⟨s', h1, h2, h3⟩ := vK (L := fun n i (s : List qT × List zH) => FX k n m m.length i pa as cu cl pe t B.1 B.2.1 B.2.2.1 B.2.2.2 pr ho m ids to ov 0 0 false s.1 s.2) (N := m.length) (fun s => (pa, as, cu, cl, pe, t, B.1, B.2.1, B.2.2.1, B.2.2.2, pr, ho, m, ids, to, ov, 0, 0, false, s.1, s.2)) (fun i s => s.1 = ((m.take i).filter (vD t)).map (wP 21) ∧ s.2 = (m.take i).filter (fun p => !vD t p)) (fun n s _=>by
  show FY k _ m m.length m.length pa as cu cl pe t B.1 B.2.1 B.2.2.1 B.2.2.2 pr ho m ids to ov 0 0 false s.1 s.2=_;unfold FY;simp only [qR, ab (Nat.lt_irrefl _), an]) (fun n i s hi hs=>by
  have tK:s.1.length≤900:=by
   rw[hs.1,List.length_map];have:=List.length_filter_le (vD t) (m.take i);rw[List.length_take] at this;omega
  have mK:s.2.length≤900:=by
   rw[hs.2];have:=List.length_filter_le (fun p=> !vD t p) (m.take i);rw[List.length_take] at this;omega
  show∃s',FY k _ m m.length i pa as cu cl pe t B.1 B.2.1 B.2.2.1 B.2.2.2 pr ho m ids to ov 0 0 false s.1 s.2=_∧_;unfold FY Wd;have FV:qg k (m.getD i pd).2.1 21 [(m.getD i pd).1]=some (wP 21 (m.getD i pd)):=rfl;simp only[pd] at FV;simp only[qC,qR,au,aa hi,ak,FV,ae,xI (show s.1.length≤1000 by omega),nR (show s.2.length≤1000 by omega),qE hi (show m.length<9223372036854775808 by omega)];have f1:=Bm (vD t) m i pd hi;have f2:=Bm (fun p=> !vD t p) m i pd hi;cases hb:vD t (m.getD i pd) with
  |true=>
   have bH:decide (t>(m.getD i (0,0,0,0,0,0,0)).2.2.2.2.2.2)=true:=hb;rw[bH];refine⟨(s.1++[wP 21 (m.getD i pd)],s.2),rfl,?_,?_⟩
   ·show s.1++_=_;rw[f1,hb,hs.1];simp
   ·show s.2=_;rw[f2,hb,hs.2];simp
  |false=>
   have bH:decide (t>(m.getD i (0,0,0,0,0,0,0)).2.2.2.2.2.2)=false:=hb;rw[bH];refine⟨(s.1,s.2++[m.getD i pd]),rfl,?_,?_⟩
   ·show s.1=_;rw[f1,hb,hs.1];simp
   ·show s.2++_=_;rw[f2,hb,hs.2];simp) (s:=([],[])) (show m.length<k by omega) ⟨rfl,rfl⟩
 have:=h1.trans (by rw[h2,h3,List.take_length]);exact this
structure vKl (t cl:Int) (B C:BT) (m m':List zH) (ov:Bool) (o:List qT):Prop where
 bk:qO C
 bl:C.1.length=B.1.length
 sub:List.Sublist m' m
 over:ov=decide (t+1=cl)
 none:ov=true→m'=[]
 late:ov=false→∀p∈m',vD (t+1) p=false
 OI:∀p∈m',kR p o=0
 ik:∀p∈m,p∉m'→kR p o=1
 quiet:∀q:zH,(∀p∈m,p.1≠q.1)→kR q o=0
 room:o.length+2*m'.length≤2*m.length+(if ov=true then 6 else 0)
theorem qL.not_in {l m d:List zH}(hd:qL (d++m)){p}(hp:p∈m):∀q∈d,q.1≠p.1:=fun q hq=>(List.pairwise_append.1 hd).2.2 q hq p hp
end Go.Ab.Gi
