/- Plain proofs, part 0. -/
import Derived.Test.YthpehdcmpldloaaGreatGiAbC
import Derived.Test.YthpehdcmpldloaaGreatGiXS
set_option linter.unusedVariables false
set_option linter.unusedSimpArgs false
set_option maxRecDepth 100000
set_option linter.unusedSectionVars false
namespace Go.Ab
theorem aa {p:Prop}[Decidable p](h:p):decide p=true:=decide_eq_true h
theorem ab {p:Prop}[Decidable p](h:¬p):decide p=false:=decide_eq_false h
theorem JM {p:Prop}[Decidable p](h:decide p=true):p:=of_decide_eq_true h
theorem gh {p:Prop}[Decidable p](h:decide p=false):¬p:=of_decide_eq_false h
theorem aX {p:Prop}[Decidable p]:(decide p=true)=p:=decide_eq_true_eq
theorem ae {α β:Type}(a:α)(f:α→Option β):(some a).bind f=f a:=rfl
theorem ag {α:Type}(a b:α):cond true a b=a:=rfl
theorem ak {α:Type}(a b:α):cond false a b=b:=rfl
theorem ao (n:Nat):(n:Int).toNat=n:=rfl
theorem bc (a b:Bool):((a&&b)=true)=(a=true∧b=true):=Bool.and_eq_true a b
theorem aB:(!true)=false:=rfl
theorem bG:(!false)=true:=rfl
theorem au {α:Type}{a b:List α}:(a++b).length=a.length+b.length:=List.length_append
theorem bL {α:Type}{l:List α}{i:Nat}{a:α}:l.getD i a=l[i]?.getD a:=List.getD_eq_getElem?_getD
theorem bQ {α:Type}{i:Nat}{l:List α}:(l.take i).length=min i l.length:=List.length_take
end Go.Ab
namespace Go.Ab
theorem zO {x:Int}(h1:-9223372036854775808≤x)(h2:x<9223372036854775808):zA x=x:=by
 unfold zA IntKind.wrap;simp only[IntKind.bits,IntKind.signed,Bool.true_and];by_cases h:x%2^64≥2^(64-1)
 ·rw[if_pos (by simpa using h)];omega
 ·rw[if_neg (by simpa using h)];omega
theorem vJ7 (x:Int):-9223372036854775808≤zA x:=by
 unfold zA IntKind.wrap;simp only[IntKind.bits,IntKind.signed,Bool.true_and];by_cases h:x%2^64≥2^(64-1)
 ·rw[if_pos (by simpa using h)];omega
 ·rw[if_neg (by simpa using h)];omega
theorem Wk (x:Int):zA x<9223372036854775808:=by
 unfold zA IntKind.wrap;simp only[IntKind.bits,IntKind.signed,Bool.true_and];by_cases h:x%2^64≥2^(64-1)
 ·rw[if_pos (by simpa using h)];omega
 ·rw[if_neg (by simpa using h)];omega
theorem qD {i N:Nat}(h:i<N)(hN:N<9223372036854775808):zA ((i:Int)+1)=((i+1:Nat):Int):=by
 rw[zO (by omega) (by omega)];rfl
theorem wfi {n}(h:(Lit.int .i64 n).wf=true):-9223372036854775808≤n∧n<9223372036854775808:=by
 simp[Lit.wf,IntKind.min,IntKind.bits] at h;grind
theorem qC (i n:Nat):zB (i:Int) n=decide (i<n):=by
 unfold zB;simp
theorem wV {i:Int}{n:Nat}(h0:0≤i)(h1:i<n):zB i n=true:=by
 unfold zB;simp;omega
theorem qI {n b}(h:n*b≤140737488355328)(h':n≤140737488355328):zL n b=true:=by
 simp_all
theorem qU (i n:Nat):decide ((i:Int)<(n:Int))=decide (i<n):=by simp
theorem sQ (i n:Nat):decide ((i:Int)=(n:Int))=decide (i=n):=by
 by_cases h:i=n
 ·subst h;simp
 ·rw[ab h,ab (by omega)]
def qH (p:Nat→Bool):Nat→Nat→Bool
 |0,_=>true
 |c+1,i=>p i&&qH p c (i+1)
theorem vFp {p:Nat→Bool}:∀{c i:Nat},qH p c i=true↔∀j,i≤j→j<i+c→p j=true
 |0,i=>by simp[qH];intro j h1 h2;omega
 |c+1,i=>by
  simp only[qH,bc,vFp (c:=c)];constructor
  ·rintro⟨h1,h2⟩ j h3 h4
   by_cases e:j=i
   ·subst e;exact h1
   ·exact h2 j (by omega) (by omega)
  ·intro h;exact⟨h i (Nat.le_refl i) (by omega),fun j h1 h2=>h j (by omega) (by omega)⟩
theorem gH {p c}:qH p c 0=true↔∀j,j<c→p j=true:=by
 rw[vFp];simp
theorem Wl {X:Type}{L:Nat→Int→Option X}{N:Nat} ok a b (bR:∀n,L (n+1) (N:Int)=some a)
  (aL:∀n i,i<N→L (n+1) (i:Int)=bif ok i then L n ((i+1:Nat):Int) else some b):∀c i n,i+c=N→c<n→L n (i:Int)=some (bif qH ok c i then a else b)
 |0,i,n,h,hn=>by
  obtain⟨n,rfl⟩:∃m,n=m+1:=⟨n-1,by omega⟩;have:i=N:=by omega
  subst this;exact bR n
 |c+1,i,n,h,hn=>by
  obtain⟨n,rfl⟩:∃m,n=m+1:=⟨n-1,by omega⟩;rw[aL n i (by omega)];unfold qH;cases ok i with
  |false=>rfl
  |true=>
   exact Wl ok a b bR aL c (i+1) n (by omega) (by omega)
theorem mo {X:Type}{L:Nat→Int→Option X}{N:Nat} ok a b (bR:∀n,L (n+1) (N:Int)=some a)
  (aL:∀n i,i<N→L (n+1) (i:Int)=bif ok i then L n ((i+1:Nat):Int) else some b) {n} (hn:N<n):L n 0=some (bif qH ok N 0 then a else b):=
 Wl ok a b bR aL N 0 n (by omega) hn
theorem yIc {L:Nat→Int→Option (Unit⊕Int)}{N:Nat}(bad:Nat→Bool)(bR:∀n,L (n+1) (N:Int)=some (.inl ()))
  (aL:∀n i,i<N→L (n+1) (i:Int)=bif bad i then some (.inr (i:Int)) else L n ((i+1:Nat):Int)):
  ∀c i n,i+c=N→c<n→(qH (fun j=> !bad j) c i=true∧L n (i:Int)=some (.inl ()))∨∃x:Nat,i≤x∧x<N∧bad x=true∧(∀j,i≤j→j<x→bad j=false)∧qH (fun j=> !bad j) c i=false∧L n (i:Int)=some (.inr (x:Int))
 |0,i,n,h,hn=>by
  obtain⟨n,rfl⟩:∃m,n=m+1:=⟨n-1,by omega⟩;have:i=N:=by omega
  subst this;exact .inl ⟨rfl,bR n⟩
 |c+1,i,n,h,hn=>by
  obtain⟨n,rfl⟩:∃m,n=m+1:=⟨n-1,by omega⟩;rw[aL n i (by omega)];unfold qH;cases hb:bad i with
  |true=>exact .inr ⟨i,Nat.le_refl i,by omega,hb,fun j h1 h2=>absurd h1 (by omega),rfl,rfl⟩
  |false=>
   simp only[ak,bG,Bool.true_and];rcases yIc bad bR aL c (i+1) n (by omega) (by omega) with h1|⟨x,x1,x2,x3,x4,x5,x6⟩
   ·exact .inl h1
   ·refine .inr ⟨x,by omega,x2,x3,fun j h1 h2=>?_,x5,x6⟩;by_cases e:j=i
    ·subst e;exact hb
    ·exact x4 j (by omega) h2
theorem xq {L:Nat→Int→Option (Unit⊕Int)}{N:Nat}(bad:Nat→Bool)(bR:∀n,L (n+1) (N:Int)=some (.inl ()))
  (aL:∀n i,i<N→L (n+1) (i:Int)=bif bad i then some (.inr (i:Int)) else L n ((i+1:Nat):Int)) {n:Nat} (hn:N<n):
  ∃x:Unit⊕Int,L n 0=some x∧decide ((match x with|.inl _=>(-1:Int)|.inr y=>y)≥0)= !qH (fun j=> !bad j) N 0:=by
 rcases yIc bad bR aL N 0 n (by omega) hn with⟨h1,h2⟩|⟨x,_,_,_,_,h5,h6⟩
 ·exact⟨_,h2,by rw[h1];rfl⟩
 ·exact⟨_,h6,by rw[h5];simp⟩
theorem yY7 {S X:Type}{L:Nat→Int→S→Option X}{N}(e:S→X)(inv:Nat→S→Prop)(bR:∀n s,inv N s→L (n+1) (N:Int) s=some (e s))
  (aL:∀n i s,i<N→inv i s→∃s',L (n+1) (i:Int) s=L n ((i+1:Nat):Int) s'∧inv (i+1) s'):
  ∀c i n s,i+c=N→c<n→inv i s→∃s',L n (i:Int) s=some (e s')∧inv N s'
 |0,i,n,s,h,hn,hs=>by
  obtain⟨n,rfl⟩:∃m,n=m+1:=⟨n-1,by omega⟩;grind
 |c+1,i,n,s,h,hn,hs=>by
  obtain⟨n,rfl⟩:∃m,n=m+1:=⟨n-1,by omega⟩;obtain⟨s',h1,h2⟩:=aL n i s (by omega) hs;rw[h1];exact yY7 e inv bR aL c (i+1) n s' (by omega) (by omega) h2
theorem yX {S X:Type}{L:Nat→Int→S→Option X}{N}(e:S→X)(inv:Nat→S→Prop)(bR:∀n s,inv N s→L (n+1) (N:Int) s=some (e s))
 (aL:∀n i s,i<N→inv i s→∃s',L (n+1) (i:Int) s=L n ((i+1:Nat):Int) s'∧inv (i+1) s') {n s} (hn:N<n) (hs:inv 0 s):
 ∃s',L n 0 s=some (e s')∧inv N s':=yY7 e inv bR aL N 0 n s (by omega) hn hs
def zP {α:Type}(g:α→Int):List α→Int
 |[]=>0
 |p::l=>g p+zP g l
theorem mq {α} g:∀(l m:List α),zP g (l++m)=zP g l+zP g m
 |[],m=>by simp[zP]
 |p::l,m=>by
  show g p+zP g (l++m)=g p+zP g l+zP g m;rw[mq g l m];omega
theorem Ep {α g A}:∀{l:List α},(∀p∈l,-A≤g p∧g p≤A)→-(l.length*A)≤zP g l∧zP g l≤l.length*A
 |[],_=>by simp[zP]
 |p::l,h=>by
  have h1:=h p (by simp);have h2:=Ep (l:=l) fun q hq=>h q (by grind)
  have e:((p::l).length:Int)*A=(l.length:Int)*A+A:=by
   rw[List.length_cons,Int.natCast_add,Int.add_mul];simp
  show-_≤g p+zP g l∧g p+zP g l≤_;omega
theorem xr {α g}:∀{l:List α},(∀p∈l,0≤g p)→0≤zP g l
 |[],_=>by simp[zP]
 |p::l,h=>by
  have h1:=h p (by simp);have h2:=xr (l:=l) fun q hq=>h q (by grind)
  show 0≤g p+zP g l;omega
theorem ySb {α} g h:∀(l:List α),zP (fun p=>g p+h p) l=zP g l+zP h l
 |[]=>rfl
 |p::l=>by
  show g p+h p+zP _ l=g p+zP g l+(h p+zP h l);rw[ySb g h l];omega
theorem Wm {α} g h:∀(l:List α),zP (fun p=>g p-h p) l=zP g l-zP h l
 |[]=>rfl
 |p::l=>by
  show g p-h p+zP _ l=g p+zP g l-(h p+zP h l);rw[Wm g h l];omega
theorem Oy {α g h}:∀{l:List α},(∀p∈l,g p=h p)→zP g l=zP h l
 |[],_=>rfl
 |p::l,e=>by
  show g p+zP g l=h p+zP h l;rw[e p (by simp),Oy fun q hq=>e q (by grind)]
def qJ (g:Nat→Int):Nat→Int
 |0=>0
 |n+1=>qJ g n+g n
theorem Er g h:∀n,qJ (fun j=>g j+h j) n=qJ g n+qJ h n
 |0=>rfl
 |n+1=>by
  show qJ _ n+(g n+h n)=qJ g n+g n+(qJ h n+h n);rw[Er g h n];omega
theorem sR {g h}:∀{n},(∀j,j<n→g j=h j)→qJ g n=qJ h n
 |0,_=>rfl
 |n+1,e=>by
  show qJ g n+g n=qJ h n+h n;rw[sR fun j hj=>e j (by omega),e n (by simp)]
theorem Bq (c:Int)(t:Nat):∀n,qJ (fun j=>if j=t then c else 0) n=if t<n then c else 0
 |0=>rfl
 |n+1=>by
  show qJ _ n+(if n=t then c else 0)=_;rw[Bq c t n];by_cases h:t<n
  ·rw[if_pos h,if_neg (by omega),if_pos (by omega)];omega
  ·by_cases h':n=t
   ·rw[if_neg h,if_pos h',if_pos (by omega)];omega
   ·rw[if_neg h,if_neg h',if_neg (by omega)];omega
theorem Wn:∀n,qJ (fun _=>0) n=0
 |0=>rfl
 |n+1=>by show qJ _ n+0=0;rw[Wn n];rfl
theorem xu {g A}(h:∀j,-A≤g j∧g j≤A):∀n:Nat,-(n*A)≤qJ g n∧qJ g n≤n*A
 |0=>by simp[qJ]
 |n+1=>by
  have h1:=h n;have h2:=xu h n;have e:((n+1:Nat):Int)*A=(n:Int)*A+A:=by
   grind
  show-_≤qJ g n+g n∧qJ g n+g n≤_;omega
theorem Oz {α}(g:Nat→α→Int) n:∀l:List α,qJ (fun j=>zP (g j) l) n=zP (fun p=>qJ (fun j=>g j p) n) l
 |[]=>Wn n
 |p::l=>by
  show qJ (fun j=>g j p+zP (g j) l) n=qJ (fun j=>g j p) n+zP _ l;rw[Er,Oz g n l]
theorem fg {α:Type}{l:List α}{i d}(h:i<l.length):l.getD i d∈l:=by
 simp_all
theorem fi {α:Type}(l:List α) i d (h:i<l.length):l.take i++[l.getD i d]=l.take (i+1):=by
 simp_all
theorem fQ {α:Type}(l:List α)(i j:Nat)(a d:α):(l.set i a).getD j d=if i=j∧i<l.length then a else l.getD j d:=by
 rw[bL,bL,List.getElem?_set];by_cases h:i=j
 ·subst h;by_cases h':i<l.length<;>simp[h']
 ·simp[h]
theorem Es {α:Type}{l m:List α} d (hl:l.length=m.length)(h:∀i,i<l.length→l.getD i d=m.getD i d):l=m:=by
 apply List.ext_getElem hl;simp_all
theorem Wo m (hm:m≤62) x:yM .i64 x (2^m-1)=x%2^m:=by
 unfold yM tE;have hp:(2:Int)^m=((2^m:Nat):Int):=by rfl
 have hle:2^m≤2^62:=Nat.pow_le_pow_right (by omega) hm;have lY:0<2^m:=by grind
 have e1:(BitVec.ofInt IntKind.i64.bits x&&&BitVec.ofInt IntKind.i64.bits (2^m-1)).toNat=(x%2^m).toNat:=by
  rw[BitVec.toNat_and,BitVec.toNat_ofInt,BitVec.toNat_ofInt];have e2:((2:Int)^m-1)%((2^IntKind.i64.bits:Nat):Int)=((2^m-1:Nat):Int):=by
   rw[hp];have:((2^m:Nat):Int)-1=((2^m-1:Nat):Int):=by omega
   rw[this];apply Int.emod_eq_of_lt (by omega);show((2^m-1:Nat):Int)<((2^64:Nat):Int);omega
  rw[e2,ao,Nat.and_two_pow_sub_one_eq_mod];have hx:0≤x%((2^IntKind.i64.bits:Nat):Int):=by omega
  have e3:x%2^m=(x%((2^IntKind.i64.bits:Nat):Int))%((2^m:Nat):Int):=by
   rw[hp,Int.emod_emod_of_dvd];show((2^m:Nat):Int)∣((2^64:Nat):Int);exact Int.natCast_dvd_natCast.2 (Nat.pow_dvd_pow 2 (by omega))
  grind
 rw[e1];have h0:0≤x%2^m:=by omega
 rw[Int.toNat_of_nonneg h0];exact zO (by omega) (by omega)
end Go.Ab
namespace Go.Ab.Gi
open Go.Ab
def pq (s c:Int):Int:=wG .u64 (shl .u64 s 8) (IntKind.wrap .u64 c)
def sS (b:AC):Int:=zA (b.foldl pq 0)
def iT:Nat→AC→AC
 |0,_=>[]
 |m+1,b=>sS (b.take 8)::iT m (b.drop 8)
theorem Wp:∀m b,(iT m b).length=m
 |0,_=>rfl
 |m+1,b=>by simp[iT,Wp m]
theorem yKu:∀m b,iT (m+1) b=iT m b++[sS ((b.drop (8*m)).take 8)]
 |0,b=>by rfl
 |m+1,b=>by
  have h:=yKu m (b.drop 8);rw[show iT (m+1+1) b=sS (b.take 8)::iT (m+1) (b.drop 8) from rfl,h];rw[List.drop_drop,show 8+8*m=8*(m+1) by omega];rfl
theorem yTj {x:AC}{i}(h:i<x.length) s:(x.take (i+1)).foldl pq s=pq ((x.take i).foldl pq s) (x.getD i 0):=by
 rw[←fi x i 0 h,List.foldl_append];rfl
theorem Wq {k}(hk:9≤k) s0 x r0 (hx:x.length=8):Et k k s0 0 x 8 0 r0=some (s0,x.foldl pq 0,r0):=by
 obtain ⟨s, h1, h2⟩ := yX (L := fun n i (s : Int) => Et k n s0 s x 8 i r0) (N := 8) (fun s => (s0, s, r0)) (fun i s => s = (x.take i).foldl pq 0) (fun n s _ => rfl) (fun n i s hi hs=>by
  refine⟨pq s (x.getD i 0),?_,by rw[yTj (by omega),hs]⟩;show OA k (Et k n) s0 s x 8 (i:Int) r0=_;unfold OA;rw[aa (by grind),ag,wV (by omega) (by omega),ag,qD (N:=8) hi (by omega),ao];rfl) (n:=k) (s:=0) (by omega) rfl
 grind
theorem yYc {k}(hk:9≤k):∀m n b r,b.length=8*m→m<n→r.length+m≤17592186044416→Eu k n b r=some (r++iT m b)
 |0,n,b,r,hb,hn,_=>by
  obtain⟨n,rfl⟩:∃x,n=x+1:=⟨n-1,by omega⟩;show Ev k (Eu k n) b r=_;unfold Ev;rw[ab (by omega),ak];simp[iT]
 |m+1,n,b,r,hb,hn,hr=>by
  obtain⟨n,rfl⟩:∃x,n=x+1:=⟨n-1,by omega⟩;show Ev k (Eu k n) b r=_;unfold Ev;have ht:(b.take 8).length=8:=by grind
  have e8:((b.take 8).length:Int)=8:=by omega
  rw[aa (by grind),ag,aa (by grind),ag,e8,Wq hk _ _ _ ht,ae];dsimp only;rw[qI (by omega) (by omega),ag,aa (by grind),ag];rw[yYc hk m n _ _ (by grind) (by omega) (by grind)];rw[List.append_assoc];rfl
theorem vAs (n:Nat):Int.tmod (n:Int) 8=((n%8:Nat):Int):=rfl
def fR (b:AC):AC×Int:=if b.length%8=0 then(iT (b.length/8) b,0) else([],2)
theorem yPm {k:Nat}{b:AC}(hk:9≤k)(hb:b.length<8*k)(bF:b.length≤140737488355328):sU k b=some (fR b):=by
 unfold sU fR;rw[vAs];by_cases h:b.length%8=0
 ·rw[if_pos h,aa (by omega),yYc hk (b.length/8) k b [] (by omega) (by omega) (by simp;omega)];rfl
 ·rw[if_neg h,ab (by omega)];rfl
theorem yQz {k}(hk:9≤k) x (hx:x.length=8):JN k x=some (sS x):=by
 unfold JN;obtain ⟨s, h1, h2⟩ := yX (L := fun n i (s : Int) => JO k n x s i) (N := 8) (fun s => s) (fun i s => s = (x.take i).foldl pq 0) (fun n s _ => rfl) (fun n i s hi hs=>by
  refine⟨pq s (x.getD i 0),?_,by rw[yTj (by omega),hs]⟩;show OB k (JO k n) x s (i:Int)=_;unfold OB;rw[aa (by grind),ag,wV (by omega) (by omega),ag,qD (N:=8) hi (by omega),ao];rfl) (n:=k) (s:=0) (by omega) rfl
 rw[List.take_of_length_le (by omega)] at h2;subst h2;rw[h1];rfl
theorem yFl {k}(hk:9≤k) b M (hM:b.length=8*M)(hb:M≤17592186044416):∀m n j,j+m=M→m<n→Br k n b ((8*j:Nat):Int) (iT j b)=some (iT M b)
 |0,n,j,hj,hn=>by
  obtain⟨n,rfl⟩:∃x,n=x+1:=⟨n-1,by omega⟩;show Ew k (Br k n) b _ _=_;unfold Ew;simp_all
 |m+1,n,j,hj,hn=>by
  obtain⟨n,rfl⟩:∃x,n=x+1:=⟨n-1,by omega⟩;show Ew k (Br k n) b _ _=_;unfold Ew;have ew:zA (((8*j:Nat):Int)+8)=((8*(j+1):Nat):Int):=by rw[zO (by omega) (by omega)];omega
  rw[ew,aa (by grind),ag,aa (by grind),aa (by grind),
   aa (by grind),ao,ao,show 8*(j+1)-8*j=8 by omega]
  have hl:(qR b (8*j) 8).length=8:=by simp[qR];omega
  rw[show(true&&true&&true)=true from rfl,ag,yQz hk _ hl,ae];rw[qI (by rw[Wp];omega) (by rw[Wp];omega),ag];rw[show iT j b++[sS (qR b (8*j) 8)]=iT (j+1) b from(yKu j b).symm];exact yFl hk b M hM hb m n (j+1) (by omega) (by omega)
theorem yKc {k:Nat}{b:AC}(hk:9≤k)(hb:b.length<8*k)(bF:b.length≤140737488355328):JP k b=some (fR b):=by
 unfold JP fR;rw[vAs];by_cases h:b.length%8=0
 ·rw[if_pos h,aa (by omega)];have:=yFl hk b (b.length/8) (by omega) (by omega) (b.length/8) k 0 (by omega) (by omega);show(Br k k b ((8*0:Nat):Int) (iT 0 b)).bind _=_;rw[this];rfl
 ·rw[if_neg h,ab (by omega)];rfl
def vCd:AC:=[(-1),6,1,2,2,2,1,1,2,0,2,2,2,0,0,0,1,5,4,1,1,1,1,1]
def vE (x:Int):Int:=if 0≤x∧x<24 then vCd.getD x.toNat 0 else-1
theorem vHl (k:Nat)(x:Int):Bt k x=some (vE x):=by
 unfold Bt vE;by_cases h:x<0
 ·rw[aa h,if_neg (by omega)];rfl
 ·rw[ab h,ak];by_cases h2:x≥24
  ·rw[aa h2,if_neg (by omega)];rfl
  ·rw[ab h2,ak,wV (by omega) (by omega),ag,if_pos (by omega)];rfl
theorem OC (k:Nat)(x:Int):ux k x=some (vE x):=by
 by_cases h:0≤x∧x<24
 ·obtain⟨n,rfl⟩:∃n:Nat,x=n:=⟨x.toNat,by omega⟩;have hn:n<24:=by omega
  have:∀n:Nat,n<24→ux 0 (n:Int)=some (vE (n:Int)):=by decide
  exact this n hn
 ·have e:vE x= -1:=by unfold vE;rw[if_neg h]
  rw[e];unfold ux;have ne:∀c:Int,0≤c→c<24→decide (x=c)=false:=fun c h1 h2=>ab (by omega)
  rw[ne 9 (by omega) (by omega),ne 13 (by omega) (by omega),ne 14 (by omega) (by omega),ne 15 (by omega) (by omega),ne 2 (by omega) (by omega),ne 6 (by omega) (by omega),ne 7 (by omega) (by omega),ne 16 (by omega) (by omega),
   ne 19 (by omega) (by omega),ne 20 (by omega) (by omega),ne 21 (by omega) (by omega),ne 22 (by omega) (by omega),ne 23 (by omega) (by omega),ne 3 (by omega) (by omega),ne 4 (by omega) (by omega),ne 5 (by omega) (by omega),ne 8 (by omega) (by omega),
   ne 10 (by omega) (by omega),ne 11 (by omega) (by omega),ne 12 (by omega) (by omega),ne 18 (by omega) (by omega),ne 17 (by omega) (by omega),ne 1 (by omega) (by omega)]
  rfl
def kT (b:AC):zC×Int:=
 if b=[] then((0,0,0,0,0,0,0),2)
 else if(fR (b.drop 1)).2≠0∨((fR (b.drop 1)).1.length:Int)≠vE (zA (b.getD 0 0)) then((0,0,0,0,0,0,0),2)
 else((zA (b.getD 0 0),(fR (b.drop 1)).1.getD 0 0,(fR (b.drop 1)).1.getD 1 0,(fR (b.drop 1)).1.getD 2 0,(fR (b.drop 1)).1.getD 3 0,(fR (b.drop 1)).1.getD 4 0,(fR (b.drop 1)).1.getD 5 0),0)
theorem vSy (l:AC)(i:Nat):(bif Nat.blt i l.length then l.getD i 0 else 0)=l.getD i 0:=by
 by_cases h:i<l.length
 ·rw[show Nat.blt i l.length=true by simp[Nat.blt_eq,h]];rfl
 ·rw[show Nat.blt i l.length=false by
   cases e:Nat.blt i l.length with
   |false=>rfl
   |true=>rw[Nat.blt_eq] at e;omega]
  rw[bL,List.getElem?_eq_none (by omega)];rfl
theorem yJv {k:Nat}{b:AC}(hk:9≤k)(hb:b.length≤8*k)(bF:b.length≤140737488355328):uy k b=some (kT b):=by
 unfold uy kT;cases b with
 |nil=>rfl
 |cons c l=>
  rw[if_neg (by simp)];have e0:((c::l).length:Int)=(l.length:Int)+1:=by simp
  rw[ab (by omega),ak,aa (show(1:Int)≤((c::l).length:Int) by omega),ag,yPm hk (by simp at hb⊢;omega) (by simp at bF⊢;omega),ae];by_cases h:(fR (List.drop 1 (c::l))).2=0
  ·rw[aa h,wV (by omega) (by simp),OC];simp only[aB,ak,ag,ae];by_cases h2:((fR (List.drop 1 (c::l))).1.length:Int)=vE (zA ((c::l).getD 0 0))
   ·rw[aa h2,if_neg (fun hh=>hh.elim (fun e=>e h) fun e=>e h2)];simp only[aB,ak,vSy]
   ·rw[ab h2,if_pos (.inr h2)];rfl
  ·rw[ab h,if_pos (.inl h)];rfl
theorem OE (x:Int):vE x≤6:=by
 unfold vE;split
 ·rename_i h;obtain⟨n,rfl⟩:∃n:Nat,x=n:=⟨x.toNat,by omega⟩;have:∀n:Nat,n<24→vCd.getD n 0≤6:=by decide
  exact this n (by omega)
 ·omega
theorem Wr k m (b0:zC) x l (hl:l.length≤6):
  OF k (m+7) 0 b0 (x,0,0,0,0,0,0) l=some (b0,(x,l.getD 0 0,l.getD 1 0,l.getD 2 0,l.getD 3 0,l.getD 4 0,l.getD 5 0)):=by
 match l,hl with
 |[],_
  |[_],_
  |[_,_],_
  |[_,_,_],_
  |[_,_,_,_],_
  |[_,_,_,_,_],_
  |[_,_,_,_,_,_],_=>rfl
theorem Ws {k:Nat}{b:AC}(hk:9≤k)(hb:b.length≤8*k)(bF:b.length≤140737488355328):JQ k b=some (kT b):=by
 unfold JQ kT;cases b with
 |nil=>rfl
 |cons c l=>
  rw[if_neg (by simp)];have e0:((c::l).length:Int)=(l.length:Int)+1:=by simp
  rw[ab (by omega),ak,wV (by omega) (by simp),ag,aa (show(1:Int)≤((c::l).length:Int) by omega),ag,yKc hk (by simp at hb⊢;omega) (by simp at bF⊢;omega),ae];by_cases h:(fR (List.drop 1 (c::l))).2=0
  ·rw[aa h,vHl];simp only[aB,ak,ae];by_cases h2:((fR (List.drop 1 (c::l))).1.length:Int)=vE (zA ((c::l).getD 0 0))
   ·rw[aa h2,if_neg (fun hh=>hh.elim (fun e=>e h) fun e=>e h2)];have hm:=OE (zA ((c::l).getD 0 0));obtain⟨m,rfl⟩:∃m,k=m+7:=⟨k-7,by omega⟩;simp only[aB,ak];rw[Wr _ _ _ _ _ (by omega)];rfl
   ·rw[ab h2,if_pos (.inr h2)];rfl
  ·rw[ab h,if_pos (.inl h)];rfl
abbrev aeh:Type:=Int×List (Int×Int)×Int×Int×Int
abbrev Ey:Type:=Int×List (Int×Int×Int)×EQ×AC×EQ×AC×EQ×List (Int×Int×Int×Int×Int×Int×Int)×AC×Int×Bool
abbrev xv:Type:=Int×List (Int×Int)×Int×Int×Int×Int×List (Int×Int×Int)×EQ×AC×EQ×AC×EQ×List (Int×Int×Int×Int×Int×Int×Int)×AC×Int×Bool×Int×Bool
def d0:oL:=(0,0,[],0,0)
abbrev dkW (ro:Int)(x:AC)(sx:Int)(y:AC)(sy cA cK op:Int):vX:=(ro,x,sx,y,sy,cA,cK,false,false,op)
def vH (n:Int)(i:Nat):Int:=IntKind.wrap .u8 (shr .i64 n (8*(i:Int)))
def yB (n:Int):AC:=[vH n 7,vH n 6,vH n 5,vH n 4,vH n 3,vH n 2,vH n 1,vH n 0]
def yN (l:AC):AC:=l.flatMap yB
theorem iU:∀l,(yN l).length=8*l.length
 |[]=>rfl
 |n::l=>by
  have:=iU l;simp[yN] at this⊢;rw[this];simp[yB];omega
theorem Wt {k n} v (i:Nat)(hi:i≤7) aR bB bC r (hr:r.length≤1000000000):
  xw k (n+1) v (i:Int) aR bB bC r=xw k n v ((i:Int)-1) aR bB bC (r++[vH v i]):=by
 show OG k (xw k n) v (i:Int) aR bB bC r=_;unfold OG;have e8:zA (8*(i:Int))=8*(i:Int):=zO (by omega) (by omega);rw[aa (by simp),ag,e8,ab (by omega),bG,ag,qI (by omega) (by omega),ag,zO (by omega) (by omega)];rfl
theorem vSb {k}(hk:9≤k) v aR bB bC r (hr:r.length≤100000000):
  xw k k v 7 aR bB bC r=some (aR,bB,bC,r++yB v):=by
 have gen:∀m,xw k (m+9) v 7 aR bB bC r=some (aR,bB,bC,r++yB v):=fun m=>by
  have h:=fun n i hi r' sj=>Wt (k:=k) (n:=n) v i hi aR bB bC r' sj
  have h7:=h (m+8) 7 (by omega) r (by omega);have h6:=h (m+7) 6 (by omega) (r++[vH v 7]) (by grind);have h5:=h (m+6) 5 (by omega) ((r++[vH v 7])++[vH v 6]) (by grind);have h4:=h (m+5) 4 (by omega) (((r++[vH v 7])++[vH v 6])++[vH v 5]) (by grind);have h3:=h (m+4) 3 (by omega) ((((r++[vH v 7])++[vH v 6])++[vH v 5])++[vH v 4]) (by grind);have h2:=h (m+3) 2 (by omega) (((((r++[vH v 7])++[vH v 6])++[vH v 5])++[vH v 4])++[vH v 3]) (by grind);have h1:=h (m+2) 1 (by omega) ((((((r++[vH v 7])++[vH v 6])++[vH v 5])++[vH v 4])++[vH v 3])++[vH v 2]) (by simp;omega);have h0:=h (m+1) 0 (by omega) (((((((r++[vH v 7])++[vH v 6])++[vH v 5])++[vH v 4])++[vH v 3])++[vH v 2])++[vH v 1]) (by simp;omega);refine(h7.trans (h6.trans (h5.trans (h4.trans (h3.trans (h2.trans (h1.trans (h0.trans ?_))))))));show some (aR,bB,bC,_)=_;simp only[List.append_assoc,List.cons_append,List.nil_append];rfl
 obtain⟨m,rfl⟩:∃m,k=m+9:=⟨k-9,by omega⟩;exact gen m
theorem yZk {k}(hk:9≤k) l (hl:l.length≤1000000):∀(m n i:Nat),i+m=l.length→m<n→Bv k n l (l.length:Int) (i:Int) (yN (l.take i))=some (yN l)
 |0,n,i,hi,hn=>by
  obtain⟨n,rfl⟩:∃x,n=x+1:=⟨n-1,by omega⟩;show Ez k (Bv k n) l _ _ _=_;unfold Ez;simp_all
 |m+1,n,i,hi,hn=>by
  obtain⟨n,rfl⟩:∃x,n=x+1:=⟨n-1,by omega⟩;show Ez k (Bv k n) l _ _ _=_;unfold Ez;have bn:i<l.length:=by omega
  rw[aa (by grind),ag,wV (by omega) (by omega),ag,ao,
   vSb hk _ _ _ _ _ (by rw[iU,bQ];omega),ae,qD (N:=l.length) bn (by omega)]
  rw[show yN (l.take i)++yB (l.getD i 0)=yN (l.take (i+1)) by
   rw[←fi l i 0 bn];simp[yN]]
  exact yZk hk l hl m n (i+1) (by omega) (by omega)
theorem JR {k}(hk:9≤k) l (hl:l.length≤1000000)(pU:l.length<k):xx k l=some (yN l):=by
 unfold xx;have h8:zA (8*(l.length:Int))=((8*l.length:Nat):Int):=by rw[zO (by omega) (by omega)];omega
 rw[h8];have hm:qe 0 ((8*l.length:Nat):Int) 1=true:=by
  grind
 rw[hm,ag];have:=yZk hk l hl l.length k 0 (by omega) pU;show(Bv k k l (l.length:Int) ((0:Nat):Int) (yN (l.take 0))).bind _=_;simp_all
def qV (l:AC):AC:=yB (l.length:Int)++yN l
theorem vYr {k}(hk:9≤k) l (hl:l.length≤1000000)(pU:l.length<k):OH k l=some (qV l):=by
 unfold OH;rw[JR hk [(l.length:Int)] (by simp) (by grind),ae,JR hk l hl pU,ae];rw[qI (by rw[iU,iU];grind) (by rw[iU,iU];grind)];rfl
def wI (b:AC):AC:=[IntKind.wrap .u8 (shr .i64 (b.length:Int) 8),IntKind.wrap .u8 (b.length:Int)]++b
theorem yOe k b:JS k b=some (if b.length≤60000 then(wI b,true) else([],false)):=by
 unfold JS;by_cases h:b.length≤60000
 ·rw[ab (by omega),ak,qI (by omega) (by omega),if_pos h];rfl
 grind
theorem yFm (x:Nat)(hx:x<18446744073709551616):(BitVec.ofInt 64 (x:Int)).toNat=x:=by
 rw[BitVec.ofInt_natCast,BitVec.toNat_ofNat];exact Nat.mod_eq_of_lt hx
theorem yV0 (a c:Nat)(hc:c<256)(ha:a*256+c<18446744073709551616):(BitVec.ofInt 64 ((a*256:Nat):Int)|||BitVec.ofInt 64 (c:Int)).toNat=a*256+c:=by
 rw[BitVec.toNat_or,yFm _ (by omega),yFm _ (by omega)];have:=Nat.two_pow_add_eq_or_of_lt (b:=c) (i:=8) hc a;rw[show(2:Nat)^8*a=a*256 by omega] at this;exact this.symm
theorem OI (x:Int):IntKind.wrap .u8 x=x%256:=by
 unfold IntKind.wrap;simp[IntKind.bits,IntKind.signed]
theorem EA (x:Int):IntKind.wrap .u64 x=x%18446744073709551616:=by
 unfold IntKind.wrap;simp[IntKind.bits,IntKind.signed]
theorem Wu {s c:Int}(hs:0≤s)(hc:0≤c∧c<256):pq s c=(s*256+c)%18446744073709551616:=by
 unfold pq;have e1:shl .u64 s 8=(s*256)%18446744073709551616:=EA _;rw[e1,EA c];obtain⟨a,ha⟩:∃a:Nat,s%72057594037927936=a:=⟨(s%72057594037927936).toNat,by omega⟩;obtain⟨d,rfl⟩:∃d:Nat,c=d:=⟨c.toNat,by omega⟩;have e2:(s*256)%18446744073709551616=((a*256:Nat):Int):=by omega
 have e3:(d:Int)%18446744073709551616=(d:Int):=by omega
 rw[e2,e3];show IntKind.wrap .u64 (((BitVec.ofInt 64 ((a*256:Nat):Int)|||BitVec.ofInt 64 (d:Int)).toNat:Nat):Int)=_;rw[yV0 a d (by omega) (by omega),EA];omega
theorem yZw (n:Int)(i:Nat)(hi:i≤7):vH n i=(n/2^(8*i))%256:=by
 unfold vH;rw[OI]
 congr 1
 show n.fdiv (2^(min (8*(i:Int)).toNat 64))=_;rw[show min (8*(i:Int)).toNat 64=8*i by omega];exact Int.fdiv_eq_ediv_of_nonneg _ (Int.le_of_lt (Int.pow_pos (by decide)))
theorem yZp {n:Int}(h1:-9223372036854775808≤n)(h2:n<9223372036854775808):sS (yB n)=n:=by
 have o:=fun i (hi:i≤7)=>yZw n i hi
 have b:∀i,i≤7→0≤vH n i∧vH n i<256:=fun i hi=>by rw[o i hi];omega
 have p:∀s:Int,0≤s→∀i,i≤7→pq s (vH n i)=(s*256+vH n i)%18446744073709551616:=fun s hs i hi=>Wu hs (b i hi)
 unfold sS yB;simp only[List.foldl_cons,List.foldl_nil];rw[p 0 (by omega) 7 (by omega),p _ (by omega) 6 (by omega),p _ (by omega) 5 (by omega),p _ (by omega) 4 (by omega),p _ (by omega) 3 (by omega),p _ (by omega) 2 (by omega),p _ (by omega) 1 (by omega),p _ (by omega) 0 (by omega)];rw[o 7 (by omega),o 6 (by omega),o 5 (by omega),o 4 (by omega),o 3 (by omega),o 2 (by omega),o 1 (by omega),o 0 (by omega)];simp only[Nat.reduceMul,Int.reducePow];unfold zA IntKind.wrap;simp only[IntKind.bits,IntKind.signed,Bool.true_and];simp;split<;>omega
def qA (l:EQ):AC:=l.flatMap qV
theorem fj l:(qV l).length=8*(l.length+1):=by
 simp[qV,iU];show 8+_=_;omega
theorem vGb {l:EQ}{i}(h:i<l.length):qA (l.take i)++qV (l.getD i [])=qA (l.take (i+1)):=by
 rw[←fi l i [] h];simp[qA]
structure wY (l:EQ):Prop where
 n:l.length≤900
 r:∀x∈l,x.length≤900
theorem JT {l}(h:∀x∈l,x.length≤900):(qA l).length≤8000*l.length:=by
 induction l with
 |nil=>simp[qA]
 |cons x l ih=>
  have h1:=ih (by grind);have h2:=h x (by simp);simp[qA,fj] at h1⊢;omega
theorem vNd {k}(hk:1000≤k){l}(h:wY l):JU k l=some (qA l):=by
 have hn:=h.n;unfold JU;obtain ⟨s, h1, h2⟩ := yX (L := fun n i (s : AC) => EB k n l (l.length : Int) i s) (N := l.length) (fun s => s) (fun i s => s = qA (l.take i)) (fun n s _=>by
  show EC k (EB k n) l _ _ s=_;unfold EC;simp) (fun n i s hi hs=>by
  refine⟨s++qV (l.getD i []),?_,by rw[hs,vGb hi]⟩;show EC k (EB k n) l _ (i:Int) s=_;unfold EC;have hr:=h.r _ (fg (d:=[]) hi);have ub:s.length≤8000*1000:=by
   have:=JT (l:=l.take i) fun x hx=>h.r x (by grind)
   grind
  rw[aa (by grind),ag,wV (by omega) (by omega),ag,ao,vYr (by omega) _ (by omega) (by omega),ae,
   qI (by rw[fj];omega) (by rw[fj];omega),ag,qD (N:=l.length) hi (by omega)]) (n:=k) (s:=[]) (by omega) rfl
 simp_all
def wJ (a:Int×Int×Int):AC:=[a.1,a.2.1,a.2.2]
def vL (p:Int×Int×Int×Int×Int×Int×Int):AC:=[p.1,p.2.1,p.2.2.1,p.2.2.2.1,p.2.2.2.2.1,p.2.2.2.2.2.1,p.2.2.2.2.2.2]
def wF (s:Ey):EQ:=
 (((((([[s.1,s.2.2.2.2.2.2.2.2.2.1,bif s.2.2.2.2.2.2.2.2.2.2 then 1 else 0,(s.2.1.length:Int),(s.2.2.1.length:Int),(s.2.2.2.1.length:Int),(s.2.2.2.2.1.length:Int),(s.2.2.2.2.2.2.1.length:Int),(s.2.2.2.2.2.2.2.1.length:Int)]]++
  s.2.1.map wJ)++s.2.2.1)++[s.2.2.2.1])++s.2.2.2.2.1)++[s.2.2.2.2.2.1])++s.2.2.2.2.2.2.1)++s.2.2.2.2.2.2.2.1.map vL++[s.2.2.2.2.2.2.2.2.1]
theorem OJ {α β:Type}(f:α→β) d {l:List α}{i}(h:i<l.length):(l.take i).map f++[f (l.getD i d)]=(l.take (i+1)).map f:=by
 rw[←fi l i d h];simp
theorem vSx {k}{l:List (Int×Int×Int)}(hl:l.length≤900)(hk:1000≤k)(s:Ey)(b) r (hr:r.length≤1000000):Bw k k l (l.length:Int) 0 s b r=some (s,b,r++l.map wJ):=by
 obtain ⟨t, h1, h2⟩ := yX (L := fun n i (t : EQ) => Bw k n l (l.length : Int) i s b t) (N := l.length) (fun t => (s, b, t)) (fun i t => t = r ++ (l.take i).map wJ) (fun n t _=>by
  show ED k (Bw k n) l _ _ s b t=_;unfold ED;simp) (fun n i t hi ht=>by
  refine⟨t++[wJ (l.getD i (0,0,0))],?_,by rw[ht,List.append_assoc,OJ wJ (0,0,0) hi]⟩;show ED k (Bw k n) l _ (i:Int) s b t=_;unfold ED;have:t.length≤1001000:=by grind
  rw[aa (by grind),ag,wV (by omega) (by omega),ag,qI (by omega) (by omega),ag,qD (N:=l.length) hi (by omega)];rfl) (n:=k) (s:=r) (by omega) (by simp)
 simp_all
theorem vIq {k}{l:List (Int×Int×Int×Int×Int×Int×Int)}(hl:l.length≤900)(hk:1000≤k)(s:Ey) r (hr:r.length≤1000000):Bx k k l (l.length:Int) 0 s r=some (s,r++l.map vL):=by
 obtain ⟨t, h1, h2⟩ := yX (L := fun n i (t : EQ) => Bx k n l (l.length : Int) i s t) (N := l.length) (fun t => (s, t)) (fun i t => t = r ++ (l.take i).map vL) (fun n t _=>by
  show EE k (Bx k n) l _ _ s t=_;unfold EE;simp) (fun n i t hi ht=>by
  refine⟨t++[vL (l.getD i (0,0,0,0,0,0,0))],?_,by rw[ht,List.append_assoc,OJ vL (0,0,0,0,0,0,0) hi]⟩;show EE k (Bx k n) l _ (i:Int) s t=_;unfold EE;have:t.length≤1001000:=by grind
  rw[aa (by grind),ag,wV (by omega) (by omega),ag,qI (by omega) (by omega),ag,qD (N:=l.length) hi (by omega)];rfl) (n:=k) (s:=r) (by omega) (by simp)
 simp_all
theorem yW4 {k}(hk:1000≤k){s}(h:wY (wF s)):mr k s=some (qA (wF s)):=by
 have hn:=h.n;simp only[wF,au,List.length_map] at hn;unfold mr;rw[show OK k s.2.2.2.2.2.2.2.2.2.2=some (bif s.2.2.2.2.2.2.2.2.2.2 then 1 else 0) by unfold OK;grind,ae];rw[vSx (by omega) hk _ _ _ (by simp),ae];dsimp only;rw[qI (by grind) (by grind),ag,qI (by grind) (by grind),ag,qI (by simp;omega) (by grind),ag,qI (by simp;omega) (by simp;omega),ag,
  qI (by simp;omega) (by simp;omega),ag,vIq (by omega) hk _ _ (by simp;omega),ae]
 dsimp only;rw[qI (by simp;omega) (by simp;omega),ag];show(JU k (wF s)).bind (fun x1=>some x1)=_;rw[vNd hk h];rfl
structure Wv (D:vX):Prop where
 ad5:D.2.2.2.2.2.2.2.1=false
 down:D.2.2.2.2.2.2.2.2.1=false
 room:0≤D.1∧D.1≤200000
 x:(D.2.1.length:Int)≤D.1
 y:(D.2.2.2.1.length:Int)≤D.1
def vB (D:vX)(i:Int):AC:=if i=0 then D.2.1 else D.2.2.2.1
theorem Wv.as {D}(h:Wv D):∃ro x sx y sy cA cK op,D=dkW ro x sx y sy cA cK op∧0≤ro∧ro≤200000∧(x.length:Int)≤ro∧(y.length:Int)≤ro:=by
 obtain⟨ro,x,sx,y,sy,cA,cK,ar,dn,op⟩:=D;obtain⟨h1,h2,h3,h4,h5⟩:=h;subst h1;subst h2;grind
structure aej (L:fV):Prop where
 side:L.1=0∨L.1=1
 gen:1≤L.2.1∧L.2.1≤4611686018427387904
 rows:0≤L.2.2.1∧L.2.2.1≤1000000
 stale:L.2.2.2=false
theorem uz b:(wI b).length=b.length+2:=by rfl
def pt (l:AC):Prop:=∀x∈l,-9223372036854775808≤x∧x<9223372036854775808
theorem yOq:∀{l},pt l→iT l.length (yN l)=l
 |[],_=>rfl
 |n::l,h=>by
  have h1:=h n (by simp);have e:yN (n::l)=yB n++yN l:=by rfl
  show sS ((yB n++yN l).take 8)::iT l.length ((yB n++yN l).drop 8)=_;have t:(yB n++yN l).take 8=yB n:=rfl;have d:(yB n++yN l).drop 8=yN l:=rfl;rw[t,d,yZp h1.1 h1.2,yOq fun x hx=>h x (by grind)]
theorem Ww {l}(h:pt l):fR (yN l)=(l,0):=by
 unfold fR;have:=iU l;rw[if_pos (by omega),show(yN l).length/8=l.length by omega,yOq h]
theorem yZm {k}(hk:9≤k){l}(hl:l.length<k)(hm:l.length≤1000000)(h:pt l):sU k (yN l)=some (l,0):=by
 have:=iU l;rw[yPm hk (by omega) (by omega),Ww h]
theorem Wx {k}(hk:9≤k){n}(h:-9223372036854775808≤n∧n<9223372036854775808):sU k (yB n)=some ([n],0):=by
 have e:yB n=yN [n]:=by rfl
 rw[e];exact yZm hk (by grind) (by simp) fun x hx=>by simp_all
theorem vXp {k}(hk:9≤k){l}(hl:l.length<k)(hm:l.length≤100000)(h:pt l) b (hb:b.length≤1000000):OM k (qV l++b)=some (l,b,true):=by
 have qq:=iU l;have hlen:(qV l++b).length=8+8*l.length+b.length:=by
  rw[au,qV,au,qq];rfl
 have t:(qV l++b).take 8=yB (l.length:Int):=rfl;have d:(qV l++b).drop 8=yN l++b:=rfl;unfold OM;rw[ab (by omega),ak,aa (by omega),ag,t,Wx hk (by omega),ae,d];have pv:(yN l++b).length=8*l.length+b.length:=by simp_all
 have w1:zA (Int.tdiv ((yN l++b).length:Int) 8)=((l.length+b.length/8:Nat):Int):=by
  rw[pv];have:Int.tdiv ((8*l.length+b.length:Nat):Int) 8=(((8*l.length+b.length)/8:Nat):Int):=rfl;rw[this,zO (by omega) (by omega)];omega
 have w2:zA (8*(l.length:Int))=((8*l.length:Nat):Int):=by rw[zO (by omega) (by omega)];omega
 have bd:zB 0 [(l.length:Int)].length=true:=rfl;simp only[List.getD_cons_zero];rw[ab (by simp),w1,w2,ab (by grind),aa (by grind),
  aa (by grind),ao,show List.take (8*l.length) (yN l++b)=yN l from by grind,show List.drop (8*l.length) (yN l++b)=b from by grind]
 rw[yZm hk hl (by omega) h];rfl
def By (b:AC):Int:=wG .i64 (shl .i64 (zA (b.getD 0 0)) 8) (zA (b.getD 1 0))
def Cut (b:AC):Prop:=b.length<2∨By b>60000∨By b>(b.length:Int)-2
def jR (l:EQ):AC:=l.flatMap wI
theorem yDl {r}(hr:r.length≤60000){b}(h0:b.getD 0 0=(wI r).getD 0 0)(h1:b.getD 1 0=(wI r).getD 1 0):By b=(r.length:Int):=by
 unfold By;rw[h0,h1];have e0:(wI r).getD 0 0=((r.length/256:Nat):Int):=by
  show IntKind.wrap .u8 (shr .i64 (r.length:Int) 8)=_;rw[OI];have:shr .i64 (r.length:Int) 8=((r.length/256:Nat):Int):=by
   show(r.length:Int).fdiv (2^8)=_;grind
  omega
 have e1:(wI r).getD 1 0=((r.length%256:Nat):Int):=by
  rfl
 rw[e0,e1,zO (by omega) (by omega),zO (by omega) (by omega)];have e2:shl .i64 ((r.length/256:Nat):Int) 8=((r.length/256*256:Nat):Int):=by
  show zA (((r.length/256:Nat):Int)*2^8)=_;exact zO (by omega) (by omega)
 rw[e2];show IntKind.wrap .i64 (((BitVec.ofInt 64 ((r.length/256*256:Nat):Int)|||BitVec.ofInt 64 ((r.length%256:Nat):Int)).toNat:Nat):Int)=_;rw[yV0 _ _ (by omega) (by omega)];have:=zO (x:=((r.length/256*256+r.length%256:Nat):Int)) (by omega) (by omega);grind
theorem vFr {r:AC}(hr:r.length≤60000){j:Nat}(hj:j<r.length+2):Cut ((wI r).take j):=by
 have hl:=uz r;by_cases h:j<2
 ·left;rw[bQ];omega
 ·right;right;have g:∀i,i<2→((wI r).take j).getD i 0=(wI r).getD i 0:=fun i hi=>by
   rw[bL,bL,List.getElem?_take_of_lt (by omega)]
  rw[yDl hr (g 0 (by omega)) (g 1 (by omega)),bQ];omega
theorem JV:Cut []:=.inl (by decide)
theorem yVj {k:Nat}{t:AC}(ht:Cut t)(pX:t.length≤1000000):∀(l:EQ) (n:Nat) (r:EQ),(∀x∈l,x.length≤60000)→l.length<n→(jR l).length≤1000000→r.length+l.length≤1000000→EF k n (jR l++t) r=some (t,r++l)
 |[],n,r,_,hn,_,_=>by
  obtain⟨n,rfl⟩:∃m,n=m+1:=⟨n-1,by omega⟩;rw[List.append_nil];show EG k (EF k n) t r=_;unfold EG;by_cases h2:t.length<2
  ·rw[ab (by omega)];rfl
  ·rw[aa (by omega),wV (by omega) (by omega),wV (by omega) (by omega)];simp only[ag];have e:wG .i64 (shl .i64 (zA (t.getD 0 0)) 8) (zA (t.getD 1 0))=By t:=rfl;rw[e,zO (x:=(t.length:Int)-2) (by omega) (by omega)];by_cases h3:By t>60000
   ·rw[aa h3];rfl
   ·rw[ab h3,aa (show By t>(t.length:Int)-2 by rcases ht with h|h|h;exact absurd h h2;exact absurd h h3;exact h)];rfl
 |x::l,n,r,hl,hn,hb,hr=>by
  obtain⟨n,rfl⟩:∃m,n=m+1:=⟨n-1,by omega⟩;have hx:=hl x (List.mem_cons_self ..);have ex:jR (x::l)=wI x++jR l:=by simp[jR]
  have sg:=uz x;rw[ex,au] at hb;have ih:=yVj (k:=k) ht pX l n (r++[x]) (fun y hy=>hl y (List.mem_cons_of_mem _ hy)) (by simp at hn;omega) (by omega) (by rw[au];simp at hr⊢;omega);rw[ex,List.append_assoc];obtain⟨B,hB⟩:∃B,jR l++t=B:=⟨_,rfl⟩;rw[hB] at ih⊢;have hBl:B.length≤2000000:=by rw[←hB,au];omega
  have hlen:(wI x++B).length=x.length+2+B.length:=by rw[au,sg]
  show EG k (EF k n) (wI x++B) r=_;unfold EG;rw[aa (by omega),wV (by omega) (by omega),wV (by omega) (by omega)];simp only[ag];have e:wG .i64 (shl .i64 (zA ((wI x++B).getD 0 0)) 8) (zA ((wI x++B).getD 1 0))=(x.length:Int):=yDl hx rfl rfl;have hs:qR (wI x++B) 2 (x.length+2-2)=x:=by
   unfold qR;show List.take (x.length+2-2) (x++B)=x;exact List.take_left' (by omega)
  have hd:List.drop (x.length+2) (wI x++B)=B:=List.drop_left' sg;have w2:zA (2+(x.length:Int))=((x.length+2:Nat):Int):=by rw[zO (by omega) (by omega)];omega
  rw[e,w2,zO (x:=((wI x++B).length:Int)-2) (by omega) (by omega),ab (show¬(x.length:Int)>60000 by omega),ab (show¬(x.length:Int)>((wI x++B).length:Int)-2 by omega),ao,hs,hd,
   aa (show(2:Int)≤((x.length+2:Nat):Int) by omega),aa (show(0:Int)≤((x.length+2:Nat):Int) by omega),aa (show((x.length+2:Nat):Int)≤((wI x++B).length:Int) by omega),qI (by omega) (by omega),qI (by simp at hr;omega) (by simp at hr;omega)]
  simp only[ak,Bool.and_self,ag];rw[ih,List.append_assoc];rfl
theorem vEr {k t}(ht:Cut t)(pX:t.length≤1000000){l}(hl:∀x∈l,x.length≤60000)(hn:l.length<k)(hm:l.length≤1000000)(hb:(jR l).length≤1000000):ON k (jR l++t)=some (l,(t.length:Int)):=by
 unfold ON;rw[yVj ht pX l k [] hl hn hb (by simp_all)];rfl
abbrev yA:=Int×Int×Int
abbrev zH:=Int×Int×Int×Int×Int×Int×Int
def fk (a:yA):Bool:=decide (a.1>-4611686018427387904)&&(decide (a.1<4611686018427387904)&&(decide (a.2.1≥0)&&(decide (a.2.1≤2305843009213693952)&&(decide (a.2.2≥0)&&decide (a.2.2≤2305843009213693952)))))
def wX (n:Int):Bool:=decide (n≥-1)&&decide (n≤2305843009213693952)
def gZ (n:Int):Bool:=decide (n>-72057594037927936)&&decide (n<72057594037927936)
def cell (m:EQ)(i j:Nat):Int:=(m.getD i []).getD j 0
def nr (n:Nat)(m:EQ):Bool:=decide (m.length=n)&&qH (fun i=>decide ((m.getD i []).length=n)) n 0
def qs (p:Int→Bool)(n:Nat)(m:EQ):Bool:=qH (fun i=>qH (fun j=>p (cell m i j)) n 0) n 0
def xy (n:Nat)(m:EQ):Bool:=qH (fun i=>qH (fun j=>decide (cell m i j=zA (0-cell m j i))) n 0) n 0
def nu (xz:List yA)(bil:EQ)(mul:AC)(pos:EQ):Bool:=
 let n:=xz.length
 decide (1≤n)&&(decide (n≤6)&&(nr n bil&&(nr n pos&&(decide (mul.length=n)&&(qH (fun i=>fk (xz.getD i (0,0,0))) n 0&&(qH (fun i=>wX (mul.getD i 0)) n 0&&(qs wX n bil&&(qs gZ n pos&&xy n pos))))))))
theorem Wy k b c r:JW k b c r=some (fk (b,c,r)):=by
 unfold JW fk;grind
theorem yM0 k b c r:OO k b c r=some (fk (b,c,r)):=Wy k b c r
theorem Wz k n:JX k n=some (wX n):=by
 unfold JX wX;grind
theorem vGw k n:WA k n=some (wX n):=Wz k n
theorem WB k n:OP k n=some (gZ n):=by
 unfold OP gZ;grind
theorem yWw {k:Nat}{n:Nat}(hk:n<k)(hn:n≤1000)(m:EQ):JY k m n=some (nr n m):=by
 unfold JY nr;simp only[sQ];by_cases h:m.length=n
 ·have := mo (L := fun c i => JZ k c m n i) (N := n) (fun i => decide ((m.getD i []).length = n)) (.inl ()) (.inr false) (fun c=>by
    show EH k _ m n n=_;unfold EH;simp only [qU, ab (Nat.lt_irrefl n), ak]) (fun c i hi=>by
    show EH k _ m n i=_;unfold EH;simp only[qC,qD hi (by omega),qU,sQ,ao,h,aa hi,ag];cases decide ((m.getD i []).length=n)<;>rfl) hk
  simp only[h,decide_true,aB,ak,Bool.true_and];rw[this];generalize qH _ _ _=r;cases r<;>rfl
 ·simp only[ab h,bG,ag,Bool.false_and]
theorem vY6 {k:Nat}{N i:Nat}(hk:N<k)(hN:N≤1000)(hi:i<N){a:List yA}{b p:EQ}{m:AC}(hb:b.length=N)(hp:p.length=N)(WC:∀j,j<N→(b.getD j []).length=N)(pw:∀j,j<N→(p.getD j []).length=N):
  EI k k N i 0 a b m p=some (bif qH (fun j=>wX (cell b i j)&&(gZ (cell p i j)&&decide (cell p i j=zA (0-cell p j i)))) N 0 then .inl ((N:Int),(i:Int),a,b,m,p) else .inr false):=by
 refine mo (L:=fun c j=>EI k c N i j a b m p) (N:=N) _ (.inl ((N:Int),(i:Int),a,b,m,p)) (.inr false) (fun c=>?_) (fun c j hj=>?_) hk
 ·show EJ k _ N i N a b m p=_;unfold EJ;simp only[qU,ab (Nat.lt_irrefl N),ak]
 ·show EJ k _ N i j a b m p=_;unfold EJ;simp only[qC,qD hj (by omega),qU,ao,hb,hp,WC i hi,pw i hi,pw j hj,aa hj,aa hi,ag,Wz,ae,gZ];show(bif !wX (cell b i j) then _ else bif decide (cell p i j≤_) then _ else bif decide (cell p i j≥_) then _ else bif !decide (cell p i j=_) then _ else _)=_;have e1:decide (cell p i j≤-72057594037927936)= !decide (cell p i j>-72057594037927936):=by
   by_cases h:cell p i j≤-72057594037927936
   ·rw[aa h,ab (by omega)];rfl
   ·rw[ab h,aa (by omega)];rfl
  have e2:decide (cell p i j≥72057594037927936)= !decide (cell p i j<72057594037927936):=by
   by_cases h:cell p i j≥72057594037927936
   ·rw[aa h,ab (by omega)];rfl
   ·rw[ab h,aa (by omega)];rfl
  rw[e1,e2];show(bif !wX (cell b i j) then _ else bif _ then _ else bif _ then _ else bif !decide (cell p i j=zA (0-cell p j i)) then _ else _)=_;cases wX (cell b i j)<;>cases decide (cell p i j>-72057594037927936)<;>cases decide (cell p i j<72057594037927936)<;>cases decide (cell p i j=zA (0-cell p j i))<;>rfl
theorem vLe {k:Nat}{N:Nat}(hk:N<k)(hN:N≤1000){a:List yA}{b p:EQ}{m:AC}(ha:a.length=N)(hm:m.length=N)(hb:b.length=N)(hp:p.length=N)(WC:∀j,j<N→(b.getD j []).length=N)(pw:∀j,j<N→(p.getD j []).length=N):
  EK k k N 0 a b m p=some (bif qH (fun i=>fk (a.getD i (0,0,0))&&(wX (m.getD i 0)&&qH (fun j=>wX (cell b i j)&&(gZ (cell p i j)&&decide (cell p i j=zA (0-cell p j i)))) N 0)) N 0 then .inl () else .inr false):=by
 refine mo (L:=fun c j=>EK k c N j a b m p) (N:=N) _ (.inl ()) (.inr false) (fun c=>?_) (fun c i hi=>?_) hk
 ·show EL k _ N N a b m p=_;unfold EL;simp only[qU,ab (Nat.lt_irrefl N),ak]
 ·show EL k _ N i a b m p=_;unfold EL;simp only[qC,qU,ao,ha,hm,aa hi,ag,Wz,Wy,ae,vY6 hk hN hi hb hp WC pw];generalize qH _ N 0=r;show(bif !fk (a.getD i (0,0,0)) then _ else _)=_;cases fk (a.getD i (0,0,0))<;>cases wX (m.getD i 0)<;>cases r<;>simp only[aB,bG,ag,ak,Bool.and_true,Bool.and_false,Bool.true_and,Bool.false_and,qD hi (show N<9223372036854775808 by omega)]
theorem WD {k:Nat}(hk:10<k)(a:List yA)(b:EQ)(m:AC)(p:EQ):OQ k a b m p=some (nu a b m p):=by
 unfold OQ;have l1:decide ((a.length:Int)<1)= !decide (1≤a.length):=by
  by_cases h:1≤a.length
  ·rw[aa h,ab (by omega)];rfl
  ·rw[ab h,aa (by omega)];rfl
 have l2:decide ((a.length:Int)>6)= !decide (a.length≤6):=by
  by_cases h:a.length≤6
  ·rw[aa h,ab (by omega)];rfl
  ·rw[ab h,aa (by omega)];rfl
 rw[l1,l2];unfold nu;dsimp only;by_cases h1:1≤a.length
 case neg=>rw[ab h1];rfl
 by_cases h2:a.length≤6
 case neg=>rw[aa h1,ab h2];rfl
 rw[aa h1,aa h2];simp only[aB,ak,Bool.true_and];rw[yWw (by omega) (by omega),yWw (by omega) (by omega)];simp only[ae,sQ];cases hb:nr a.length b with
 |false=>rfl
 |true=>
  cases hp:nr a.length p with
  |false=>rfl
  |true=>
   by_cases hm:m.length=a.length
   case neg=>simp only[ab hm];rfl
   simp only[nr,bc,aX,gH] at hb hp;simp only[hm,decide_true,aB,ak,Bool.true_and];rw[vLe (by omega) (by omega) rfl hm hb.1 hp.1 hb.2 hp.2];have e:(qH (fun i=>fk (a.getD i (0,0,0))) a.length 0&&(qH (fun i=>wX (m.getD i 0)) a.length 0&&(qs wX a.length b&&(qs gZ a.length p&&xy a.length p))))=
     qH (fun i=>fk (a.getD i (0,0,0))&&(wX (m.getD i 0)&&qH (fun j=>wX (cell b i j)&&(gZ (cell p i j)&&decide (cell p i j=zA (0-cell p j i)))) a.length 0)) a.length 0:=by
    rw[Bool.eq_iff_iff];simp only[qs,xy,bc,gH];constructor
    ·rintro⟨h1,h2,h3,h4,h5⟩ i hi
     exact⟨h1 i hi,h2 i hi,fun j hj=>⟨h3 i hi j hj,h4 i hi j hj,h5 i hi j hj⟩⟩
    ·intro h;exact⟨fun i hi=>(h i hi).1,fun i hi=>(h i hi).2.1,fun i hi j hj=>((h i hi).2.2 j hj).1,fun i hi j hj=>((h i hi).2.2 j hj).2.1,fun i hi j hj=>((h i hi).2.2 j hj).2.2⟩
   rw[e];generalize qH _ _ _=r;cases r<;>rfl
theorem WE {k}{a:List yA}(hk:a.length<k)(hl:a.length<9223372036854775808):OR k a=some (!qH (fun i=>fk (a.getD i (0,0,0))) a.length 0):=by
 obtain ⟨x, h1, h2⟩ := xq (L := fun c i => J0 k c a a.length i) (N := a.length) (fun i => !fk (a.getD i (0, 0, 0))) (fun c=>by
  show EM k _ a a.length a.length=_;unfold EM;simp) (fun c i hi=>by
  show EM k _ a a.length i=_;unfold EM WG;simp[qC,qD hi hl,aa hi,yM0]) hk
 unfold OR WH;grind
theorem WI {k a}(hk:a.length<k)(hl:a.length<9223372036854775808):OT k a=some (!qH (fun i=>wX (a.getD i 0)) a.length 0):=by
 obtain ⟨x, h1, h2⟩ := xq (L := fun c i => J1 k c a a.length i) (N := a.length) (fun i => !wX (a.getD i 0)) (fun c=>by
  show EN k _ a a.length a.length=_;unfold EN;simp) (fun c i hi=>by
  show EN k _ a a.length i=_;unfold EN WJ;simp[qC,qD hi hl,aa hi,vGw]) hk
 unfold OT WK;grind
theorem WL {k a}(hk:a.length<k)(hl:a.length<9223372036854775808):OU k a=some (!qH (fun i=>gZ (a.getD i 0)) a.length 0):=by
 obtain ⟨x, h1, h2⟩ := xq (L := fun c i => J2 k c a a.length i) (N := a.length) (fun i => !gZ (a.getD i 0)) (fun c=>by
  show EO k _ a a.length a.length=_;unfold EO;simp) (fun c i hi=>by
  show EO k _ a a.length i=_;unfold EO WM;simp[qC,qD hi hl,aa hi,WB]) hk
 unfold OU WN;grind
theorem yTe {k n:Nat}(hk:n<k)(hn:n≤1000)(a:AC):J3 k a n=some (decide (a.length=n)&&qH (fun i=>wX (a.getD i 0)) n 0):=by
 unfold J3;simp only[sQ];by_cases h:a.length=n
 ·rw[WI (by omega) (by omega)];simp only[h,decide_true,ag,ae,Bool.not_not,Bool.true_and]
 ·simp only[ab h,ak,Bool.false_and]
theorem vR6 {k n:Nat}(hk:n<k)(hn:n≤1000)(a:AC):OV k a n=some (decide (a.length=n)&&qH (fun i=>gZ (a.getD i 0)) n 0):=by
 unfold OV;simp only[sQ];by_cases h:a.length=n
 ·rw[WL (by omega) (by omega)];simp only[h,decide_true,ag,ae,Bool.not_not,Bool.true_and]
 ·simp only[ab h,ak,Bool.false_and]
theorem WO {k n:Nat}(hk:n<k)(hn:n≤1000)(m:EQ):OW k m n=some (decide (m.length=n)&&qH (fun i=>decide ((m.getD i []).length=n)&&qH (fun j=>wX (cell m i j)) n 0) n 0):=by
 unfold OW;simp only[sQ];by_cases h:m.length=n
 ·have := mo (L := fun c i => J4 k c n m n i) (N := n) (fun i => decide ((m.getD i []).length = n) && qH (fun j => wX (cell m i j)) n 0) (.inl ()) (.inr false) (fun c=>by
    show EP k _ n m n n=_;unfold EP;simp only [qU, ab (Nat.lt_irrefl n), ak]) (fun c i hi=>by
    show EP k _ n m n i=_;unfold EP;simp only[qC,qD hi (by omega),qU,ao,h,aa hi,ag,yTe hk hn,ae];show(bif !(decide ((m.getD i []).length=n)&&qH (fun j=>wX (cell m i j)) n 0) then _ else _)=_;generalize (decide ((m.getD i []).length=n)&&qH (fun j=>wX (cell m i j)) n 0)=r;cases r<;>rfl) hk
  simp only[h,decide_true,aB,ak,Bool.true_and];rw[this];generalize qH _ _ _=r;cases r<;>rfl
 ·simp only[ab h,bG,ag,Bool.false_and]
theorem vHo {k n:Nat}(hk:n<k)(hn:n≤1000)(m:EQ):OX k m n=some (decide (m.length=n)&&qH (fun i=>decide ((m.getD i []).length=n)&&qH (fun j=>gZ (cell m i j)) n 0) n 0):=by
 unfold OX;simp only[sQ];by_cases h:m.length=n
 ·have := mo (L := fun c i => J5 k c n m n i) (N := n) (fun i => decide ((m.getD i []).length = n) && qH (fun j => gZ (cell m i j)) n 0) (.inl ()) (.inr false) (fun c=>by
    show ER k _ n m n n=_;unfold ER;simp only [qU, ab (Nat.lt_irrefl n), ak]) (fun c i hi=>by
    show ER k _ n m n i=_;unfold ER;simp only[qC,qD hi (by omega),qU,ao,h,aa hi,ag,vR6 hk hn,ae];show(bif !(decide ((m.getD i []).length=n)&&qH (fun j=>gZ (cell m i j)) n 0) then _ else _)=_;generalize (decide ((m.getD i []).length=n)&&qH (fun j=>gZ (cell m i j)) n 0)=r;cases r<;>rfl) hk
  simp only[h,decide_true,aB,ak,Bool.true_and];rw[this];generalize qH _ _ _=r;cases r<;>rfl
 ·simp only[ab h,bG,ag,Bool.false_and]
theorem WQ {k N i:Nat}(hk:N<k)(hN:N≤1000)(hi:i<N){p q:EQ}{u:Int}(hp:p.length=N)(pw:∀j,j<N→(p.getD j []).length=N):
  ES k k p i q u i (p.getD i []) N 0=some (bif qH (fun j=>decide (cell p j i=zA (0-cell p i j))) N 0 then .inl (p,q,u,(i:Int)) else .inr false):=by
 refine mo (L:=fun c j=>ES k c p i q u i (p.getD i []) N j) (N:=N) _ (.inl (p,q,u,(i:Int))) (.inr false) (fun c=>?_) (fun c j hj=>?_) hk
 ·show ET k _ p i q u i (p.getD i []) N N=_;unfold ET;simp only[qU,ab (Nat.lt_irrefl N),ak]
 ·show ET k _ p i q u i (p.getD i []) N j=_;unfold ET;simp only[qC,qD hj (show N<9223372036854775808 by omega),qU,ao,hp,pw i hi,pw j hj,aa hj,aa hi,ag];show(bif !decide (cell p j i=zA (0-cell p i j)) then _ else _)=_;generalize decide (cell p j i=zA (0-cell p i j))=r;cases r<;>rfl
theorem vNg {k N}(hk:N<k)(hN:N≤1000){p}(hp:p.length=N)(pw:∀j,j<N→(p.getD j []).length=N):
  OY k p=some (xy N p):=by
 have := mo (L := fun c i => J6 k c p p N i) (N := N) (fun i => qH (fun j => decide (cell p j i = zA (0 - cell p i j))) N 0) (.inl ()) (.inr false) (fun c=>by
   show EU k _ p p N N=_;unfold EU;simp) (fun c i hi=>by
   show EU k _ p p N i=_;unfold EU;simp only[qC,qU,ao,hp,pw i hi,aa hi,WQ hk hN hi hp pw,ae];generalize qH _ N 0=r;cases r<;>simp[qD hi (by grind)]) hk
 unfold OY;have e:qH (fun i=>qH (fun j=>decide (cell p j i=zA (0-cell p i j))) N 0) N 0=xy N p:=by
  rw[Bool.eq_iff_iff];simp[xy,gH];grind
 grind
theorem yYp {k:Nat}(hk:10<k)(a:List yA)(b:EQ)(m:AC)(p:EQ):Bz k a b m p=some (nu a b m p):=by
 unfold Bz;have l1:decide ((a.length:Int)<1)= !decide (1≤a.length):=by
  by_cases h:1≤a.length
  ·rw[aa h,ab (by omega)];rfl
  ·rw[ab h,aa (by omega)];rfl
 have l2:decide ((a.length:Int)>6)= !decide (a.length≤6):=by
  by_cases h:a.length≤6
  ·rw[aa h,ab (by omega)];rfl
  ·rw[ab h,aa (by omega)];rfl
 rw[l1,l2];unfold nu;dsimp only;by_cases h1:1≤a.length
 case neg=>rw[ab h1];rfl
 by_cases h2:a.length≤6
 case neg=>rw[aa h1,ab h2];rfl
 rw[aa h1,aa h2];simp only[aB,ak,Bool.true_and];rw[WE (by omega) (by omega),WO (by omega) (by omega),yTe (by omega) (by omega),vHo (by omega) (by omega)];simp only[ae];generalize hA:qH (fun i=>fk (a.getD i (0,0,0))) a.length 0=A;have sq:∀(q:Int→Bool) (m:EQ),(decide (m.length=a.length)&&qH (fun i=>decide ((m.getD i []).length=a.length)&&qH (fun j=>q (cell m i j)) a.length 0) a.length 0)=(nr a.length m&&qs q a.length m):=by
  intro q m;rw[Bool.eq_iff_iff];simp only[nr,qs,bc,aX,gH];exact⟨fun h=>⟨⟨h.1,fun i hi=>(h.2 i hi).1⟩,fun i hi=>(h.2 i hi).2⟩,fun h=>⟨h.1.1,fun i hi=>⟨h.1.2 i hi,h.2 i hi⟩⟩⟩
 rw[sq wX b,sq gZ p];cases hp:nr a.length p with
 |false=>
  cases A<;>cases nr a.length b<;>cases qs wX a.length b<;>cases decide (m.length=a.length)<;>cases qH (fun i=>wX (m.getD i 0)) a.length 0<;>rfl
 |true=>
  simp only[nr,bc,aX,gH] at hp;rw[vNg (N:=a.length) (by omega) (by omega) hp.1 hp.2];cases A<;>cases nr a.length b<;>cases qs wX a.length b<;>cases decide (m.length=a.length)<;>cases qH (fun i=>wX (m.getD i 0)) a.length 0<;>cases qs gZ a.length p<;>cases xy a.length p<;>rfl
theorem yK7 {k N:Nat}{s}(hN:s.length=N)(hl:N≤1000)(hr:∀i,i<N→(s.getD i []).length≤1000):∀c i n,i+c=N→c<n→J7 k n s i (s.take i)=some s
 |0,i,n,h,hn=>by
  obtain⟨n,rfl⟩:∃m,n=m+1:=⟨n-1,by omega⟩;show EV k _ s i (s.take i)=_;unfold EV;grind
 |c+1,i,n,h,hn=>by
  obtain⟨n,rfl⟩:∃m,n=m+1:=⟨n-1,by omega⟩;show EV k _ s i (s.take i)=_;unfold EV;have hi:i<s.length:=by omega
  have h1:=hr i (by omega);have e1:zL (0+(s.getD i []).length) 8=true:=qI (by omega) (by omega);have e2:zL ((s.take i).length+1) 24=true:=qI (by grind) (by grind);simp only[qC,qD hi (by grind),qU,ao,aa hi,e1,e2];rw[fi s i [] hi];exact yK7 hN hl hr c (i+1) n (by omega) (by omega)
theorem yMw {k s}(hl:s.length≤1000)(hk:s.length<k)(hr:∀i,i<s.length→(s.getD i []).length≤1000):J8 k s=some s:=by
 unfold J8;have:=yK7 (k:=k) rfl hl hr s.length 0 k (by omega) hk;simp_all
theorem yT2 {k N:Nat}{s}(hN:s.length=N)(hl:N≤1000)(hr:∀i,i<N→(s.getD i []).length≤1000):∀c i n,i+c=N→c<n→J9 k n s N i (s.take i) N=some (s,N)
 |0,i,n,h,hn=>by
  obtain⟨n,rfl⟩:∃m,n=m+1:=⟨n-1,by omega⟩;show EW k _ s N i (s.take i) N=_;unfold EW;grind
 |c+1,i,n,h,hn=>by
  obtain⟨n,rfl⟩:∃m,n=m+1:=⟨n-1,by omega⟩;show EW k _ s N i (s.take i) N=_;unfold EW qt;have hi:i<N:=by omega
  have h1:=hr i (by omega);have e1:zL (0+(s.getD i []).length) 8=true:=qI (by omega) (by omega);have e2:Nat.beq i (s.take i).length=true:=by rw[bQ,Nat.min_eq_left (by omega)];simp
  simp only[qC,qD hi (by grind),qU,ao,aa hi,ag,e1,e2,hN,ae];rw[fi s i [] (by omega)];exact yT2 hN hl hr c (i+1) n (by omega) (by omega)
theorem yY1 {k s}(hl:s.length≤1000)(hk:s.length<k)(hr:∀i,i<s.length→(s.getD i []).length≤1000):Ka k s=some s:=by
 unfold Ka WR;have:=yT2 (k:=k) rfl hl hr s.length 0 k (by omega) hk;rw[List.take_zero] at this;have e:((0:Nat):Int)=0:=rfl;rw[e] at this;have e1:zL (0+s.length) 24=true:=qI (by omega) (by omega);simp only[e1,ag,ae];rw[this];simp only[vUc];simp
structure Sized (a:List yA) (b:EQ) (m:AC) (p:EQ):Prop where
 n1:1≤a.length
 n6:a.length≤6
 bl:b.length=a.length
 br:∀i,i<a.length→(b.getD i []).length=a.length
 ml:m.length=a.length
 pl:p.length=a.length
 pr:∀i,i<a.length→(p.getD i []).length=a.length
structure wN (a:List yA) (b:EQ) (m:AC) (p:EQ):Prop extends Sized a b m p where
 acct:∀i,i<a.length→fk (a.getD i (0,0,0))=true
 mul:∀i,i<a.length→wX (m.getD i 0)=true
 bil:∀i,i<a.length→∀j,j<a.length→wX (cell b i j)=true
 net:∀i,i<a.length→∀j,j<a.length→gZ (cell p i j)=true
 turn:∀i,i<a.length→∀j,j<a.length→cell p i j=zA (0-cell p j i)
theorem OZ {a:List yA}{b:EQ}{m:AC}{p:EQ}:nu a b m p=true↔wN a b m p:=by
 unfold nu;simp only[bc,aX,nr,qs,xy,gH];constructor
 ·rintro⟨h1,h2,⟨h3,h4⟩,⟨h5,h6⟩,h7,h8,h9,Kb,Kc,h12⟩
  exact{n1:=h1,n6:=h2,bl:=h3,br:=h4,ml:=h7,pl:=h5,pr:=h6,acct:=h8,mul:=h9,bil:=Kb,net:=Kc,turn:=h12}
 ·intro h;exact⟨h.n1,h.n6,⟨h.bl,h.br⟩,⟨h.pl,h.pr⟩,h.ml,h.acct,h.mul,h.bil,h.net,h.turn⟩
theorem Ke {k}(hk:10<k){a b m p}(h:Sized a b m p):px k a b m p=some (a,b,m,p):=by
 obtain⟨h1,h2,h3,h4,h5,h6,h7⟩:=h;unfold px;have e1:zL (0+a.length) 24=true:=qI (by omega) (by omega);have e2:zL (0+m.length) 8=true:=qI (by omega) (by omega);rw[yMw (s:=b) (by omega) (by omega) (by grind),yMw (s:=p) (by omega) (by omega) (by grind)];grind
theorem Kf {k}(hk:10<k){a b m p}(h:Sized a b m p):gI k a b m p=some (a,b,m,p):=by
 obtain⟨h1,h2,h3,h4,h5,h6,h7⟩:=h;unfold gI WS qt;have e1:zL (0+a.length) 24=true:=qI (by omega) (by omega);have e2:zL (0+m.length) 8=true:=qI (by omega) (by omega);rw[yY1 (s:=b) (by omega) (by omega) (by grind),yY1 (s:=p) (by omega) (by omega) (by grind)];grind
theorem O0 {α:Type} d [DecidableEq α]{a b:List α}(h:a.length=b.length):qH (fun i=>decide (a.getD i d=b.getD i d)) a.length 0=decide (a=b):=by
 rw[Bool.eq_iff_iff,gH];simp;exact⟨fun h'=>Es d h h',by grind⟩
theorem EX {k:Nat}{a b:AC}(hk:a.length<k)(hl:a.length<9223372036854775808):oq k a b=some (decide (a=b)):=by
 unfold oq;simp only[sQ];by_cases h:a.length=b.length
 ·have := mo (L := fun c i => Kg k c a b i) (N := a.length) (fun i => decide (a.getD i 0 = b.getD i 0)) (.inl ()) (.inr false) (fun c=>by
    show EY k _ a b a.length=_;unfold EY;simp only [qU, ab (Nat.lt_irrefl _), ak]) (fun c i hi=>by
    show EY k _ a b i=_;unfold EY;simp only[qC,qD hi hl,qU,ao,←h,aa hi,ag];cases decide (a.getD i 0=b.getD i 0)<;>rfl) hk
  rw[O0 0 h] at this;simp only[h,decide_true,aB,ak];rw[this];cases decide (a=b)<;>rfl
 ·simp only[ab h,bG,ag];rw[ab fun e=>h (by rw[e])]
theorem O1 {k:Nat}{a b:EQ}(hk:a.length<k)(hl:a.length<9223372036854775808)(hr:∀i,i<a.length→(a.getD i []).length<k∧(a.getD i []).length<9223372036854775808):uA k a b=some (decide (a=b)):=by
 unfold uA;simp only[sQ];by_cases h:a.length=b.length
 ·have := mo (L := fun c i => Kh k c a b i) (N := a.length) (fun i => decide (a.getD i [] = b.getD i [])) (.inl ()) (.inr false) (fun c=>by
    show EZ k _ a b a.length=_;unfold EZ;simp only [qU, ab (Nat.lt_irrefl _), ak]) (fun c i hi=>by
    show EZ k _ a b i=_;unfold EZ;simp only[qC,qD hi hl,qU,ao,←h,aa hi,ag,EX (hr i hi).1 (hr i hi).2,ae];cases decide (a.getD i []=b.getD i [])<;>rfl) hk
  rw[O0 [] h] at this;simp only[h,decide_true,aB,ak];rw[this];cases decide (a=b)<;>rfl
 ·simp only[ab h,bG,ag];rw[ab fun e=>h (by rw[e])]
theorem yLy {k:Nat}(hk:10<k){a:List yA}{b:EQ}{m:AC}{p:EQ}(h:Sized a b m p)(a':List yA)(b':EQ)(m':AC)(p':EQ):
  E0 k a b m p a' b' m' p'=some (decide (a=a')&&(decide (b=b')&&(decide (p=p')&&decide (m=m')))):=by
 obtain⟨h1,h2,h3,h4,h5,h6,h7⟩:=h;unfold E0;simp only[sQ];by_cases hl:a.length=a'.length
 ·rw[O1 (a:=b) (by omega) (by omega) (fun i hi=>by rw[h4 i (by omega)];omega),O1 (a:=p) (by omega) (by omega) (fun i hi=>by rw[h7 i (by omega)];omega),EX (by omega) (by omega)];have := mo (L := fun c i => Ki k c i a b m p a' b' m' p') (N := a.length) (fun i => decide (a.getD i (0, 0, 0) = a'.getD i (0, 0, 0))) (.inl ()) (.inr false) (fun c=>by
    show E1 k _ a.length a b m p a' b' m' p'=_;unfold E1;simp only [qU, ab (Nat.lt_irrefl _), ak]) (fun c i hi=>by
    show E1 k _ i a b m p a' b' m' p'=_;unfold E1;simp only[qC,qD hi (show a.length<9223372036854775808 by omega),qU,ao,←hl,aa hi,ag];have e:decide (a.getD i (0,0,0)=a'.getD i (0,0,0))=(decide ((a.getD i (0,0,0)).1=(a'.getD i (0,0,0)).1)&&(decide ((a.getD i (0,0,0)).2.1=(a'.getD i (0,0,0)).2.1)&&decide ((a.getD i (0,0,0)).2.2=(a'.getD i (0,0,0)).2.2))):=by
     rw[Bool.eq_iff_iff];simp only[bc,aX];exact⟨fun h=>by rw[h];exact⟨rfl,rfl,rfl⟩,fun h=>Prod.ext h.1 (Prod.ext h.2.1 h.2.2)⟩
    rw[e];generalize (decide ((a.getD i (0,0,0)).1=(a'.getD i (0,0,0)).1)&&_)=r;cases r<;>rfl) (show a.length<k by omega)
  rw[O0 (0,0,0) hl] at this;simp only[hl,decide_true,aB,ak,ae];have e0:((0:Nat):Int)=0:=rfl;rw[this];cases decide (b=b')<;>cases decide (p=p')<;>cases decide (m=m')<;>cases decide (a=a')<;>rfl
 ·simp only[ab hl,bG,ag];rw[ab fun e=>hl (by rw[e])];rfl
abbrev pd:zH:=(0,(0,(0,(0,(0,(0,0))))))
abbrev ad:yA:=(0,(0,0))
def qu (n:Nat)(p:zH):Bool:=decide (p.2.1≥0)&&(decide (p.2.1<(n:Int))&&(decide (p.2.2.1≥0)&&(decide (p.2.2.1<(n:Int))&&(!decide (p.2.1=p.2.2.1)&&(decide (p.2.2.2.1≥1)&&(decide (p.2.2.2.1≤1099511627776)&&(decide (p.2.2.2.2.1≥1)&&decide (p.2.2.2.2.1≤3))))))))
structure yI (n:Nat) (p:zH):Prop where
 f0:0≤p.2.1
 f1:p.2.1<n
 t0:0≤p.2.2.1
 t1:p.2.2.1<n
 ne:p.2.1≠p.2.2.1
 a1:1≤p.2.2.2.1
 a2:p.2.2.2.1≤1099511627776
 c1:1≤p.2.2.2.2.1
 c3:p.2.2.2.2.1≤3
theorem WT {n p}:qu n p=true↔yI n p:=by
 unfold qu;simp;exact⟨fun⟨h1,h2,h3,h4,h5,h6,h7,h8,h9⟩=>⟨h1,h2,h3,h4,h5,h6,h7,h8,h9⟩,fun⟨h1,h2,h3,h4,h5,h6,h7,h8,h9⟩=>by grind⟩
theorem O2 k (a:List yA) b m p i f t am c s ti:E2 k a b m p i f t am c s ti=some (qu a.length (i,f,t,am,c,s,ti)):=by
 unfold E2 qu;grind
theorem WU k (a:List yA) b m p i f t am c s ti:WV k a b m p i f t am c s ti=some (qu a.length (i,f,t,am,c,s,ti)):=O2 k a b m p i f t am c s ti
def ot (n:Nat)(l:List zH):Bool:=qH (fun i=>qu n (l.getD i pd)) l.length 0
theorem BA {n l}:ot n l=true↔∀p∈l,yI n p:=by
 unfold ot;rw[gH];constructor
 ·intro h p hp;obtain⟨i,hi,rfl⟩:=List.getElem_of_mem hp;have:=h i hi;rw[bL,List.getElem?_eq_getElem hi] at this;exact WT.1 this
 ·intro h i hi;exact WT.2 (by grind)
theorem vG6 {k}{l:List zH}(hk:l.length<k)(hl:l.length<9223372036854775808)(a:List yA) b m p:O3 k l a b m p=some (!ot a.length l):=by
 obtain ⟨x, h1, h2⟩ := xq (L := fun c i => Kj k c l l.length i a b m p) (N := l.length) (fun i => !qu a.length (l.getD i pd)) (fun c=>by
  show E3 k _ l l.length l.length a b m p=_;unfold E3;simp) (fun c i hi=>by
  show E3 k _ l l.length i a b m p=_;unfold E3 WW;simp[qC,qD hi hl,aa hi,O2]) hk
 unfold O3 WX;unfold ot;grind
theorem yK9 {k}{l:List zH}(hk:l.length<k)(hl:l.length<9223372036854775808)(a:List yA) b m p:Kk k a b m p l=some (ot a.length l&&decide (l.length≤64)):=by
 unfold Kk;have := mo (L := fun c i => Kl k c l i a b m p) (N := l.length) (fun i => qu a.length (l.getD i pd)) (.inl l) (.inr false) (fun c=>by
  show E4 k _ l l.length a b m p=_;unfold E4;simp) (fun c i hi=>by
  show E4 k _ l i a b m p=_;unfold E4;simp only[qC,qD hi hl,qU,aa hi,WU];simp) hk
 unfold ot;have e:decide (((l.length:Nat):Int)≤64)=decide (l.length≤64):=by
  grind
 grind
def gB (i:Nat)(p:zH):Int:=(if p.2.2.1=i then p.2.2.2.1 else 0)-(if p.2.1=i then p.2.2.2.1 else 0)
def gS (i j:Nat)(p:zH):Int:=if p.2.1=i∧p.2.2.1=j then p.2.2.2.1 else 0
def gR (i:Nat)(p:zH):Int:=if p.2.1=i∧p.2.2.2.2.1≠3 then p.2.2.2.1 else 0
def jH (r s:Int):Int:=if s≥r then 0 else r-s
theorem WY {r s t}(hs:0≤s)(ht:0≤t):jH (jH r s) t=jH r (s+t):=by
 unfold jH;omega
theorem WZ {r}(hr:0≤r):jH r 0=r:=by
 unfold jH;omega
theorem vNp {r s}:0≤jH r s:=by
 unfold jH;omega
theorem vT9 {r s}(hr:0≤r)(hs:0≤s):jH r s≤r:=by
 unfold jH;omega
section
variable {n:Nat} {p:zH}
theorem vOj (h:yI n p) i:-1099511627776≤gB i p∧gB i p≤1099511627776:=by
 have h1:=h.a1;have h2:=h.a2;unfold gB;omega
theorem W0 (h:yI n p) i j:0≤gS i j p∧gS i j p≤1099511627776:=by
 have h1:=h.a1;have h2:=h.a2;unfold gS;omega
theorem O4 (h:yI n p) i:0≤gR i p∧gR i p≤1099511627776:=by
 have h1:=h.a1;have h2:=h.a2;unfold gR;omega
end
def wK (n:Nat)(l:List zH):Prop:=(∀p∈l,yI n p)∧l.length≤64
theorem W1 {n l}(h:wK n l) i:-70368744177664≤zP (gB i) l∧zP (gB i) l≤70368744177664:=by
 have h1:=Ep (g:=gB i) (A:=1099511627776) fun p hp=>vOj (h.1 p hp) i
 have h2:=h.2;omega
theorem uB {n l}(h:wK n l) i j:0≤zP (gS i j) l∧zP (gS i j) l≤70368744177664:=by
 have h1:=Ep (g:=gS i j) (A:=1099511627776) fun p hp=>by have:=W0 (h.1 p hp) i j;omega
 have h0:=xr (g:=gS i j) fun p hp=>(W0 (h.1 p hp) i j).1
 have h2:=h.2;omega
theorem BB {n l}(h:wK n l) i:0≤zP (gR i) l∧zP (gR i) l≤70368744177664:=by
 have h1:=Ep (g:=gR i) (A:=1099511627776) fun p hp=>by have:=O4 (h.1 p hp) i;omega
 have h0:=xr (g:=gR i) fun p hp=>(O4 (h.1 p hp) i).1
 have h2:=h.2;omega
theorem wK.take {n l}(h:wK n l) i:wK n (l.take i):=⟨fun p hp=>h.1 p (by grind),by rw[bQ];have:=h.2;omega⟩
structure uC (n:Nat) (a:List yA) (p:EQ) (l:List zH) (a':List yA) (p':EQ):Prop where
 al:a'.length=n
 acct:∀i,i<n→a'.getD i ad=((a.getD i ad).1+zP (gB i) l,(a.getD i ad).2.1,jH (a.getD i ad).2.2 (zP (gR i) l))
 pl:p'.length=n
 pr:∀i,i<n→(p'.getD i []).length=n
 cell:∀i,i<n→∀j,j<n→cell p' i j=cell p i j+zP (gS i j) l-zP (gS j i) l
theorem vZ3 {n p q}(hp:p.length=n)(hq:q.length=n)(pw:∀i,i<n→(p.getD i []).length=n)(hqr:∀i,i<n→(q.getD i []).length=n)(h:∀i,i<n→∀j,j<n→cell p i j=cell q i j):p=q:=
 Es [] (by omega) fun i hi=>Es 0 (by simp_all) fun j hj=>h i (by omega) j (by simp_all)
theorem uC.same {n a a1 a2 p p1 p2 l}(x:uC n a p l a1 p1)(y:uC n a p l a2 p2):a1=a2∧p1=p2:=
 ⟨Es ad (by rw[x.al,y.al]) fun i hi=>by have:=x.al;rw[x.acct i (by omega),y.acct i (by omega)],
  vZ3 x.pl y.pl x.pr y.pr fun i hi j hj=>by rw[x.cell i hi j hj,y.cell i hi j hj]⟩
structure O5 (n:Nat) (a:List yA) (p:EQ):Prop where
 al:a.length=n
 pl:p.length=n
 pr:∀i,i<n→(p.getD i []).length=n
 bal:∀i,i<n→-4611686018427387904<(a.getD i ad).1∧(a.getD i ad).1<4611686018427387904
 res:∀i,i<n→0≤(a.getD i ad).2.2∧(a.getD i ad).2.2≤2305843009213693952
 net:∀i,i<n→∀j,j<n→-72057594037927936<cell p i j∧cell p i j<72057594037927936
theorem wN.nums {a b m p}(h:wN a b m p):O5 a.length a p where
 al:=rfl
 pl:=h.pl
 pr:=h.pr
 bal:=fun i hi=>by
  have:=h.acct i hi;show-4611686018427387904<(a.getD i (0,0,0)).1∧(a.getD i (0,0,0)).1<4611686018427387904;simp only[fk,bc,aX] at this;omega
 res:=fun i hi=>by
  have:=h.acct i hi;show 0≤(a.getD i (0,0,0)).2.2∧(a.getD i (0,0,0)).2.2≤2305843009213693952;simp only[fk,bc,aX] at this;omega
 net:=fun i hi j hj=>by
  have:=h.net i hi j hj;simp[gZ] at this;omega
theorem W2 {m f t i j x}(hf:f<m.length)(ht:t<(m.getD f []).length):cell (m.set f ((m.getD f []).set t x)) i j=if i=f∧j=t then x else cell m i j:=by
 unfold cell;grind
theorem O6 {n}{m:EQ}{f t x}(hm:m.length=n)(hr:∀i,i<n→(m.getD i []).length=n)(hf:f<n):∀i,i<n→((m.set f ((m.getD f []).set t x)).getD i []).length=n:=by
 grind
def E5 (p:zH)(r:List yA):List yA:=
 let y0:=r.set p.2.1.toNat (zA ((r.getD p.2.1.toNat ad).1-p.2.2.2.1),(r.getD p.2.1.toNat ad).2);let y1:=y0.set p.2.2.1.toNat (zA ((y0.getD p.2.2.1.toNat ad).1+p.2.2.2.1),(y0.getD p.2.2.1.toNat ad).2)
 bif !decide (p.2.2.2.2.1=3) then y1.set p.2.1.toNat ((y1.getD p.2.1.toNat ad).1,((y1.getD p.2.1.toNat ad).2.1,wR false (zA ((y1.getD p.2.1.toNat ad).2.2-p.2.2.2.1)) 0)) else y1
def xA (p:zH)(m:EQ):EQ:=
 let y3:=m.set p.2.1.toNat ((m.getD p.2.1.toNat []).set p.2.2.1.toNat (zA ((m.getD p.2.1.toNat []).getD p.2.2.1.toNat 0+p.2.2.2.1)))
 y3.set p.2.2.1.toNat ((y3.getD p.2.2.1.toNat []).set p.2.1.toNat (zA ((y3.getD p.2.2.1.toNat []).getD p.2.1.toNat 0-p.2.2.2.1)))
theorem W3 p r:(E5 p r).length=r.length:=by
 unfold E5;grind
theorem vSt {n p}(h:yI n p){r}(hr:r.length=n){i}(hi:i<n)(hb:∀i,i<n→-4611826755915743232<(r.getD i ad).1∧(r.getD i ad).1<4611826755915743232)
  (hz:∀i,i<n→0≤(r.getD i ad).2.2∧(r.getD i ad).2.2≤2305843009213693952):(E5 p r).getD i ad=((r.getD i ad).1+gB i p,(r.getD i ad).2.1,jH (r.getD i ad).2.2 (gR i p)):=by
 obtain⟨f0,f1,t0,t1,ne,a1,a2,c1,c3⟩:=h;obtain⟨f,hf⟩:∃f:Nat,p.2.1=f:=⟨p.2.1.toNat,by omega⟩;obtain⟨t,ht⟩:∃t:Nat,p.2.2.1=t:=⟨p.2.2.1.toNat,by omega⟩;have O7:f≠t:=by omega
 have iD:f<n:=by omega
 have g9:t<n:=by omega
 have bf:=hb f iD;have bt:=hb t g9;have zf:=hz f iD;have e1:(r.set f (zA ((r.getD f ad).1-p.2.2.2.1),(r.getD f ad).2)).getD t ad=r.getD t ad:=by rw[fQ,if_neg (fun e=>O7 e.1)]
 have key:∀j,j<n→((r.set f (zA ((r.getD f ad).1-p.2.2.2.1),(r.getD f ad).2)).set t (zA ((r.getD t ad).1+p.2.2.2.1),(r.getD t ad).2)).getD j ad=((r.getD j ad).1+gB j p,(r.getD j ad).2):=by
  intro j hj;unfold gB;rw[hf,ht,fQ];by_cases hjt:t=j
  ·subst hjt;rw[if_pos (by grind),if_pos rfl,if_neg (by omega),zO (by omega) (by omega)];simp
  ·rw[if_neg (fun e=>hjt e.1),if_neg (by omega),fQ];by_cases hjf:f=j
   ·subst hjf;rw[if_pos ⟨rfl,by omega⟩,if_pos rfl,zO (by omega) (by omega)];simp only[Int.zero_sub];rfl
   ·rw[if_neg (fun e=>hjf e.1),if_neg (by omega)];simp
 unfold E5;simp only[hf,ht,ao,e1];unfold gR;cases hc:decide (p.2.2.2.2.1=3) with
 |true=>
  have lV:p.2.2.2.2.1=3:=by simpa using hc
  simp only[aB,ak];rw[key i hi,if_neg (fun e=>e.2 lV),WZ (hz i hi).1]
 |false=>
  have lV:p.2.2.2.2.1≠3:=by simpa using hc
  simp only[bG,ag];rw[fQ];by_cases hif:f=i
  ·subst hif;rw[if_pos (by grind),key f iD,if_pos ⟨hf,lV⟩];have:wR false (zA ((r.getD f ad).2.2-p.2.2.2.1)) 0=jH (r.getD f ad).2.2 p.2.2.2.1:=by
    rw[zO (by omega) (by omega)];unfold wR jH;grind
   rw[this]
  ·rw[if_neg (fun e=>hif e.1),key i hi,if_neg (by omega),WZ (hz i hi).1]
theorem vFv {n:Nat}{p:zH}(h:yI n p){m:EQ}(hm:m.length=n)(hr:∀i,i<n→(m.getD i []).length=n)(hb:∀i,i<n→∀j,j<n→-72128000000000000<cell m i j∧cell m i j<72128000000000000):
  (xA p m).length=n∧(∀i,i<n→((xA p m).getD i []).length=n)∧∀i,i<n→∀j,j<n→cell (xA p m) i j=cell m i j+gS i j p-gS j i p:=by
 obtain⟨f0,f1,t0,t1,ne,a1,a2,c1,c3⟩:=h;obtain⟨f,hf⟩:∃f:Nat,p.2.1=f:=⟨p.2.1.toNat,by omega⟩;obtain⟨t,ht⟩:∃t:Nat,p.2.2.1=t:=⟨p.2.2.1.toNat,by omega⟩;have O7:f≠t:=by omega
 have iD:f<n:=by omega
 have g9:t<n:=by omega
 unfold xA;simp only[hf,ht,ao];have r1:=O6 (x:=zA ((m.getD f []).getD t 0+p.2.2.2.1)) (t:=t) hm hr iD;have c1:∀i j,cell (m.set f ((m.getD f []).set t (zA ((m.getD f []).getD t 0+p.2.2.2.1)))) i j=if i=f∧j=t then zA (cell m f t+p.2.2.2.1) else cell m i j:=fun i j=>W2 (by omega) (by rw[hr f iD];omega)
 refine⟨by simp only[List.length_set];exact hm,by grind,fun i hi j hj=>?_⟩;rw[W2 (by rw[List.length_set];omega) (by rw[r1 t g9];omega)];have e2:((m.set f ((m.getD f []).set t (zA ((m.getD f []).getD t 0+p.2.2.2.1)))).getD t []).getD f 0=cell m t f:=by
  show cell _ t f=_;simp_all
 rw[e2,c1];unfold gS;rw[hf,ht];have b1:=hb f iD t g9;have b2:=hb t g9 f iD;by_cases h1:i=t∧j=f
 ·obtain⟨rfl,rfl⟩:=h1;rw[if_pos ⟨rfl,rfl⟩,if_neg (by omega),if_pos ⟨rfl,rfl⟩,zO (by omega) (by omega)];omega
 ·rw[if_neg h1];by_cases h2:i=f∧j=t
  ·obtain⟨rfl,rfl⟩:=h2;rw[if_pos ⟨rfl,rfl⟩,if_pos ⟨rfl,rfl⟩,if_neg (by omega),zO (by omega) (by omega)];omega
  omega
theorem W4 {k n a b m p l}(hk:l.length<k)(hx:O5 n a p)(hl:wK n l)(b0:List yA) b1 b2 b3:
  ∃a' p',E6 k k l l.length 0 b0 b1 b2 b3 a b m p=some (b0,b1,b2,b3,a',b,m,p')∧uC n a p l a' p':=by
 have := yX (L := fun c i (s : List yA × EQ) => E6 k c l l.length i b0 b1 b2 b3 s.1 b m s.2) (N := l.length) (fun s => (b0, b1, b2, b3, s.1, b, m, s.2)) (fun i s => uC n a p (l.take i) s.1 s.2) (fun c s hs=>by
   show E7 k _ l l.length l.length b0 b1 b2 b3 s.1 b m s.2=_;unfold E7;simp) (fun c i s hi hs=>by
   refine⟨(E5 (l.getD i pd) s.1,xA (l.getD i pd) s.2),?_,?_⟩
   ·show E7 k _ l l.length i b0 b1 b2 b3 s.1 b m s.2=_;have bU:yI n (l.getD i pd):=hl.1 _ (fg hi);unfold E7 E5 xA;have ou:=hl.2;simp only[qC,qD hi (by grind),qU,ao,aa hi,ag];obtain⟨f0,f1,t0,t1,ne,a1,a2,c1,c3⟩:=bU;obtain⟨f,hf⟩:∃f:Nat,(l.getD i pd).2.1=f:=⟨(l.getD i pd).2.1.toNat,by omega⟩;obtain⟨t,ht⟩:∃t:Nat,(l.getD i pd).2.2.1=t:=⟨(l.getD i pd).2.2.1.toNat,by omega⟩;have iD:f<n:=by omega
    have g9:t<n:=by omega
    have r1:=O6 (x:=zA ((s.2.getD f []).getD t 0+(l.getD i pd).2.2.2.1)) (t:=t) hs.pl hs.pr iD;simp only[hf,ht,ao,qC,hs.al,hs.pl,List.length_set,hs.pr f iD,r1 t g9,aa iD,aa g9,ag,xB,ae];grind
   ·have bU:yI n (l.getD i pd):=hl.1 _ (fg hi);have aS:=hl.take i;have hp := vFv bU hs.pl hs.pr (fun i' bK j' mY=>by
     rw[hs.cell i' bK j' mY];have h1:=hx.net i' bK j' mY;have h2:=uB aS i' j';have h3:=uB aS j' i';omega)
    refine⟨by rw[W3];exact hs.al,fun i' bK=>?_,hp.1,hp.2.1,fun i' bK j' mY=>?_⟩
    ·rw [vSt bU hs.al bK (fun j hj=>by
       rw[hs.acct j hj];have h1:=hx.bal j hj;have h2:=W1 aS j;dsimp only;omega) (fun j hj=>by
       rw[hs.acct j hj];have h1:=hx.res j hj;have h2:=BB aS j;dsimp only;exact⟨vNp,Int.le_trans (vT9 h1.1 h2.1) h1.2⟩),hs.acct i' bK,←fi l i pd hi,mq,mq]
     dsimp only[zP];rw[WY (BB aS i').1 (O4 bU i').1,Int.add_zero,Int.add_zero,Int.add_assoc]
    ·rw[hp.2.2 i' bK j' mY,hs.cell i' bK j' mY,←fi l i pd hi,mq,mq];dsimp only[zP];omega) (s:=(a,p)) hk ⟨hx.al,fun i hi=>by
      rw[List.take_zero];show a.getD i ad=((a.getD i ad).1+0,(a.getD i ad).2.1,jH (a.getD i ad).2.2 0);rw[WZ (hx.res i hi).1,Int.add_zero],hx.pl,hx.pr,fun i hi j hj=>by
      rw[List.take_zero];show cell p i j=cell p i j+0-0;omega⟩
 simp_all
theorem W5 {k n l}(hk:l.length<k)(hl:wK n l)(i j:Nat):xC k l i j=some (zP (gS i j) l):=by
 have ou:=hl.2;obtain ⟨s, h1, h2⟩ := yX (L := fun c x (s : Int) => Km k c l i j s x) (N := l.length) (fun s => s) (fun x s => s = zP (gS i j) (l.take x)) (fun c s hs=>by
   show E8 k _ l i j s l.length=_;unfold E8;simp) (fun c x s hx hs=>by
   refine⟨zP (gS i j) (l.take (x+1)),?_,rfl⟩;show E8 k _ l i j s x=_;have hb:=uB (hl.take x) i j;have hm:yI n (l.getD x pd):=hl.1 _ (by grind);have e:zP (gS i j) (l.take (x+1))=s+gS i j (l.getD x pd):=by
    rw[←fi l x pd hx,mq,hs];show _+(_+0)=_;omega
   have w:=zO (x:=s+(l.getD x pd).2.2.2.1) (by have:=hm.a1;omega) (by have:=hm.a2;omega);unfold E8;simp[qC,qD hx (by grind)];rw[e];unfold gS;grind) (s:=0) hk rfl
 unfold xC;simp_all
theorem W6 {k n l}(hk:l.length<k)(hl:wK n l)(i j:Nat):O8 k l i j=some (zP (gS i j) l-zP (gS j i) l):=by
 unfold O8;rw[W5 hk hl i j,W5 hk hl j i];have h1:=uB hl i j;have h2:=uB hl j i;simp;rw[zO (by omega) (by omega)]
def gN (i:Nat)(p:zH):Int:=if p.2.1=i∧p.2.2.2.2.1=3 then p.2.2.2.1 else 0
theorem O9 {n p}(h:yI n p) i:0≤gN i p∧gN i p≤1099511627776:=by
 have h1:=h.a1;have h2:=h.a2;unfold gN;omega
theorem yN3 {n l}(h:wK n l) i:0≤zP (gN i) l∧zP (gN i) l≤70368744177664:=by
 have h1:=Ep (g:=gN i) (A:=1099511627776) fun p hp=>by have:=O9 (h.1 p hp) i;omega
 have h0:=xr (g:=gN i) fun p hp=>(O9 (h.1 p hp) i).1
 have h2:=h.2;omega
theorem yZx {k n:Nat}{l}(hk:l.length<k)(hl:wK n l)(i:Nat):Kn k l i=some (zP (gN i) l,zP (gR i) l):=by
 have ou:=hl.2;obtain ⟨s, h1, h2⟩ := yX (L := fun c x (s : Int × Int) => Ko k c l i s.1 s.2 x) (N := l.length) (fun s => s) (fun x s => s = (zP (gN i) (l.take x), zP (gR i) (l.take x))) (fun c s hs=>by
   show E9 k _ l i s.1 s.2 l.length=_;unfold E9;simp) (fun c x s hx hs=>by
   refine⟨(zP (gN i) (l.take (x+1)),zP (gR i) (l.take (x+1))),?_,rfl⟩;show E9 k _ l i s.1 s.2 x=_;have hb:=yN3 (hl.take x) i;have bF:=BB (hl.take x) i;have hm:yI n (l.getD x pd):=hl.1 _ (by grind);have e:zP (gN i) (l.take (x+1))=s.1+gN i (l.getD x pd):=by
    rw[←fi l x pd hx,mq,hs];show _+(_+0)=_;omega
   have e':zP (gR i) (l.take (x+1))=s.2+gR i (l.getD x pd):=by
    rw[←fi l x pd hx,mq,hs];show _+(_+0)=_;omega
   have w:=zO (x:=s.1+(l.getD x pd).2.2.2.1) (by have:=hm.a1;grind) (by have:=hm.a2;grind);have w':=zO (x:=s.2+(l.getD x pd).2.2.2.1) (by have:=hm.a1;rw[hs];omega) (by have:=hm.a2;grind);unfold E9;simp only[qC,qD hx (by grind),qU,ag];rw[e,e'];unfold gN gR;grind) (s:=(0,0)) hk rfl
 unfold Kn;simp_all
theorem vZp {k n l}(hk:l.length<k)(hl:wK n l)(i:Nat):Pb k l i=some (zP (gR i) l):=by
 unfold Pb;rw[yZx hk hl i];rfl
theorem vAu k b c r s (h:-9223372036854775808≤r-s)(h':r<9223372036854775808)(hs:0≤s):Kp k b c r s=some (jH r s):=by
 unfold Kp jH;by_cases e:s≥r
 ·simp_all
 ·rw[ab e,if_neg e,zO h (by omega)];rfl
theorem yHd {n l}(hl:∀p∈l,yI n p) i (hi:i<n):qJ (fun j=>zP (gS i j) l-zP (gS j i) l) n= -zP (gB i) l:=by
 have e1:qJ (fun j=>zP (gS i j) l-zP (gS j i) l) n=qJ (fun j=>zP (fun p=>gS i j p-gS j i p) l) n:=sR fun j _=>(Wm _ _ l).symm
 rw[e1,Oz (fun j p=>gS i j p-gS j i p)];have e2:∀p∈l,qJ (fun j=>gS i j p-gS j i p) n=0-gB i p:=by
  intro p hp;obtain⟨f0,f1,t0,t1,ne,a1,a2,c1,c3⟩:=hl p hp;obtain⟨f,hf⟩:∃f:Nat,p.2.1=f:=⟨p.2.1.toNat,by omega⟩;obtain⟨t,ht⟩:∃t:Nat,p.2.2.1=t:=⟨p.2.2.1.toNat,by omega⟩;have g1:∀j,gS i j p-gS j i p=(if j=t then(if f=i then p.2.2.2.1 else 0) else 0)+(if j=f then(if t=i then-p.2.2.2.1 else 0) else 0):=by
   unfold gS;omega
  rw[sR fun j _=>g1 j,Er,Bq,Bq];unfold gB;omega
 rw[Oy e2,Wm];have:zP (fun _:zH=>(0:Int)) l=0:=by
  clear e1 e2 hl
  induction l with
  |nil=>rfl
  |cons p l ih=>show 0+zP _ l=0;omega
 omega
structure vQ3 (n:Nat) (a:List yA) (p:EQ) (l:List zH) (i:Nat) (a':List yA) (p':EQ):Prop where
 al:a'.length=n
 done:∀x,x<n→x<i→a'.getD x ad=((a.getD x ad).1+zP (gB x) l,(a.getD x ad).2.1,jH (a.getD x ad).2.2 (zP (gR x) l))
 rest:∀x,x<n→¬x<i→a'.getD x ad=a.getD x ad
 pl:p'.length=n
 pr:∀x,x<n→(p'.getD x []).length=n
 cell:∀x,x<n→∀y,y<n→cell p' x y=if x<i then cell p x y+zP (gS x y) l-zP (gS y x) l else cell p x y
structure W7 (n:Nat) (a:List yA) (p:EQ) (l:List zH) (i j:Nat) (a':List yA) (p':EQ):Prop where
 al:a'.length=n
 done:∀x,x<n→x<i→a'.getD x ad=((a.getD x ad).1+zP (gB x) l,(a.getD x ad).2.1,jH (a.getD x ad).2.2 (zP (gR x) l))
 here:a'.getD i ad=((a.getD i ad).1-qJ (fun j=>zP (gS i j) l-zP (gS j i) l) j,(a.getD i ad).2.1,jH (a.getD i ad).2.2 (zP (gR i) l))
 rest:∀x,x<n→i<x→a'.getD x ad=a.getD x ad
 pl:p'.length=n
 pr:∀x,x<n→(p'.getD x []).length=n
 cell:∀x,x<n→∀y,y<n→cell p' x y=if x<i∨(x=i∧y<j) then cell p x y+zP (gS x y) l-zP (gS y x) l else cell p x y
theorem vJt {k n a p l}(hk:n<k)(bS:l.length<k)(hn:n≤1000)(hx:O5 n a p)(hl:wK n l){i}(hi:i<n)(b0:List yA) b1 b2 b3 b m
  {a0 p0} (h0:W7 n a p l i 0 a0 p0):∃a' p',Fa k k l i 0 b0 b1 b2 b3 a0 b m p0=some (l,(i:Int),b0,b1,b2,b3,a',b,m,p')∧W7 n a p l i n a' p':=by
 obtain ⟨s, h1, h2⟩ := yX (L := fun c j (s : List yA × EQ) => Fa k c l i j b0 b1 b2 b3 s.1 b m s.2) (N := n) (fun s => (l, (i : Int), b0, b1, b2, b3, s.1, b, m, s.2)) (fun j s => W7 n a p l i j s.1 s.2) (fun c s hs=>by
   show Fc k _ l i n b0 b1 b2 b3 s.1 b m s.2=_;unfold Fc;simp only [qU, hs.al, ab (Nat.lt_irrefl _), ak]) (fun c j s hj hs=>by
   refine⟨(s.1.set i (zA ((s.1.getD i ad).1-(zP (gS i j) l-zP (gS j i) l)),(s.1.getD i ad).2),s.2.set i ((s.2.getD i []).set j (zA ((s.2.getD i []).getD j 0+(zP (gS i j) l-zP (gS j i) l))))),?_,?_⟩
   ·show Fc k _ l i j b0 b1 b2 b3 s.1 b m s.2=_;unfold Fc;simp only[qC,qD hj (by grind),qU,ao,hs.al,hs.pl,hs.pr i hi,aa hi,aa hj,ag,W6 bS hl,ae]
   ·have hb:=hx.bal i hi;have hg:∀j,-70368744177664≤zP (gS i j) l-zP (gS j i) l∧zP (gS i j) l-zP (gS j i) l≤70368744177664:=fun j=>by
     have h1:=uB hl i j;have h2:=uB hl j i;omega
    have DX:=xu hg j;have El:=hg j;have qw:=hx.net i hi j hj;have hc:=hs.cell i hi j hj;rw[if_neg (by omega)] at hc;refine⟨by simp only[List.length_set];exact hs.al,fun x kg xD=>?_,?_,fun x kg xD=>?_,by simp only[List.length_set];exact hs.pl,O6 hs.pl hs.pr hi,fun x kg y Kq=>?_⟩
    ·rw[fQ,if_neg (by grind)];exact hs.done x kg xD
    ·rw[fQ,if_pos ⟨rfl,by rw[hs.al];exact hi⟩,hs.here];dsimp only;rw[zO (by omega) (by omega)];show(_,_)=((a.getD i ad).1-(qJ _ j+_),_);grind
    ·rw[fQ,if_neg (by grind)];exact hs.rest x kg xD
    ·have e:(s.2.getD i []).getD j 0=cell p i j:=hc;rw[W2 (by rw[hs.pl];exact hi) (by rw[hs.pr i hi];exact hj),e];by_cases Pc:x=i∧y=j
     ·obtain⟨rfl,rfl⟩:=Pc;rw[if_pos ⟨rfl,rfl⟩,if_pos (by omega),zO (by omega) (by omega)];omega
     ·rw[if_neg Pc,hs.cell x kg y Kq];omega) (s:=(a0,p0)) hk h0
 grind
theorem vMw {k n a b m p l}(hk:n<k)(bS:l.length<k)(hn:n≤1000)(hx:O5 n a p)(hl:wK n l)(b0:List yA) b1 b2 b3:
  ∃a' p',Fe k k l 0 b0 b1 b2 b3 a b m p=some (b0,b1,b2,b3,a',b,m,p')∧uC n a p l a' p':=by
 obtain ⟨s, h1, h2⟩ := yX (L := fun c i (s : List yA × EQ) => Fe k c l i b0 b1 b2 b3 s.1 b m s.2) (N := n) (fun s => (b0, b1, b2, b3, s.1, b, m, s.2)) (fun i s => vQ3 n a p l i s.1 s.2) (fun c s hs=>by
   show Ff k _ l n b0 b1 b2 b3 s.1 b m s.2=_;unfold Ff;simp only [qU, hs.al, ab (Nat.lt_irrefl _), ak]) (fun c i s hi hs=>by
   have hai:=hs.rest i hi (by simp);have hr:=hx.res i hi;have hsp:=BB hl i;obtain⟨a',p',h1,h2⟩:=vJt (a0:=s.1.set i ((s.1.getD i ad).1,((s.1.getD i ad).2.1,jH (s.1.getD i ad).2.2 (zP (gR i) l)))) (p0:=s.2) hk bS hn hx hl hi b0 b1 b2 b3 b m ⟨by rw[List.length_set];exact hs.al,fun x kg xD=>by
     rw[fQ,if_neg (by grind)];exact hs.done x kg xD,by
     rw[fQ,if_pos ⟨rfl,by rw[hs.al];exact hi⟩,hai];show _=((a.getD i ad).1-0,_,_);simp,fun x kg xD=>by
     rw[fQ,if_neg (by grind)];exact hs.rest x kg (by omega),hs.pl,hs.pr,fun x kg y Kq=>by
     rw[hs.cell x kg y Kq];omega⟩
   refine⟨(a',p'),?_,?_⟩
   ·show Ff k _ l i b0 b1 b2 b3 s.1 b m s.2=_;unfold Ff;have hK:=vAu k (s.1.getD i ad).1 (s.1.getD i ad).2.1 (s.1.getD i ad).2.2 (zP (gR i) l) (by grind) (by grind) hsp.1;simp only[qC,qU,ao,hs.al,aa hi,ag,vZp bS hl,ae];rw[hK];simp only[ae];rw[h1];simp only[ae,qD hi (by grind)]
   ·refine⟨h2.al,fun x kg xD=>?_,fun x kg xD=>h2.rest x kg (by omega),h2.pl,h2.pr,fun x kg y Kq=>?_⟩
    ·by_cases h:x<i
     ·exact h2.done x kg h
     ·have:x=i:=by omega
      subst this;rw[h2.here,yHd hl.1 x kg];simp
    ·rw[h2.cell x kg y Kq];omega) (s:=(a,p)) hk ⟨hx.al,by simp,by simp,hx.pl,hx.pr,by simp⟩
 exact⟨s.1,s.2,h1,h2.al,fun i hi=>h2.done i hi hi,h2.pl,h2.pr,fun i hi j hj=>by rw[h2.cell i hi j hj,if_pos hi]⟩
def sV (a:List yA)(b:EQ)(m:AC)(p:EQ)(l:List zH)(r:List yA×EQ×AC×EQ×Int):Prop:=
 (wK a.length l→∃a' p',uC a.length a p l a' p'∧r=(bif nu a' b m p' then(a',b,m,p',0) else(a,b,m,p,8)))∧(¬wK a.length l→r=(a,b,m,p,1))
theorem Pd {k}(hk:100<k){a b m p}{l:List zH}(h:wN a b m p)(hl:l.length≤80):∃r,qx k a b m p l=some r∧sV a b m p l r:=by
 unfold qx sV;have e:decide (((l.length:Nat):Int)>64)=decide (¬l.length≤64):=by
  grind
 rw[e];by_cases bV:l.length≤64
 case neg=>
  rw[aa bV];exact⟨_,rfl,fun e=>absurd e.2 bV,by simp⟩
 rw[ab (by omega),vG6 (by omega) (by omega)];cases hm:ot a.length l with
 |false=>
  refine⟨_,rfl,fun e=>?_,by simp⟩;rw[BA.2 e.1] at hm;cases hm
 |true=>
  have aS:wK a.length l:=⟨BA.1 hm,bV⟩;simp only[Kf (show 10<k by omega) h.toSized,ae];obtain⟨a',p',h1,h2⟩:=W4 (b:=b) (m:=m) (show l.length<k by omega) h.nums aS a b m p;rw[h1];simp only[ae,yYp (show 10<k by omega)];cases hB:nu a' b m p' with
  |true=>exact⟨_,rfl,by grind,by grind⟩
  |false=>exact⟨_,rfl,by grind,by grind⟩
theorem vTg {k}(hk:100<k){a b m p}{l:List zH}(h:wN a b m p)(hl:l.length≤80):∃r,BC k a b m p l=some r∧sV a b m p l r:=by
 unfold BC sV;rw[yK9 (by omega) (by omega)];cases hm:ot a.length l with
 |false=>
  refine⟨_,rfl,fun e=>?_,by simp⟩;rw[BA.2 e.1] at hm;cases hm
 |true=>
  by_cases bV:l.length≤64
  case neg=>
   rw[ab bV];exact⟨_,rfl,fun e=>absurd e.2 bV,by simp⟩
  have aS:wK a.length l:=⟨BA.1 hm,bV⟩;have h6:=h.n6;rw[aa bV];simp only[Ke (show 10<k by omega) h.toSized,ae];obtain⟨a',p',h1,h2⟩:=vMw (b:=b) (m:=m) (show a.length<k by omega) (by grind) (by omega) h.nums aS a b m p;rw[h1];simp only[ae,WD (show 10<k by omega)];cases hB:nu a' b m p' with
  |true=>exact⟨_,rfl,by grind,by grind⟩
  |false=>exact⟨_,rfl,by grind,by grind⟩
theorem sV.same {a b m p l r r'}(h:sV a b m p l r)(h':sV a b m p l r'):r=r':=by
 by_cases c:wK a.length l
 ·obtain⟨a1,p1,x,rfl⟩:=h.1 c;obtain⟨a2,p2,y,rfl⟩:=h'.1 c;obtain⟨rfl,rfl⟩:=x.same y;rfl
 ·rw[h.2 c,h'.2 c]
theorem W8 {k n i p}(hk:n<k)(hn:n≤100)(hi:i<n)(hp:p.length=n)(hr:(p.getD i []).length=n)(hb:∀j,-72057594037927936≤cell p i j∧cell p i j≤72057594037927936)(a:List yA) b m:
  Pe k a b m p i=some (qJ (cell p i) n):=by
 obtain ⟨s, h1, h2⟩ := yX (L := fun c j (s : Int) => Fg k c i s j a b m p) (N := n) (fun s => s) (fun j s => s = qJ (cell p i) j) (fun c s hs=>by
   show Fh k _ i s n a b m p=_;unfold Fh;simp only [qC, qU, ao, hp, hr, aa hi, ab (Nat.lt_irrefl _), ak, ag]) (fun c j s hj hs=>by
   refine⟨qJ (cell p i) (j+1),?_,rfl⟩;show Fh k _ i s j a b m p=_;have h1:=xu hb j;have h2:=hb j;unfold Fh;simp only[qC,qD hj (by grind),qU,ao,hp,hr,aa hi,aa hj];show Fg k c i (zA (s+cell p i j)) _ a b m p=_;rw[hs,zO (by omega) (by omega)];rfl) (s:=0) hk rfl
 unfold Pe;simp_all
theorem Pf {a b m p}(hb:wN a b m p){i}(hi:i<a.length) j:-72057594037927936≤cell p i j∧cell p i j≤72057594037927936:=by
 by_cases hj:j<a.length
 ·have:=hb.net i hi j hj;simp[gZ] at this;omega
 ·have:cell p i j=0:=by
   unfold cell;rw[bL,List.getElem?_eq_none]
   ·rfl
   ·rw[hb.pr i hi];omega
  omega
theorem Pg {S X:Type}{L:Nat→Int→S→Option X}{N} ok (e:S→X) b (inv:Nat→S→Prop)(bR:∀n s,inv N s→L (n+1) (N:Int) s=some (e s))
  (aL:∀n i s,i<N→inv i s→(ok i=true→∃s',L (n+1) (i:Int) s=L n ((i+1:Nat):Int) s'∧inv (i+1) s')∧(ok i=false→L (n+1) (i:Int) s=some b)):
  ∀c i n s,i+c=N→c<n→inv i s→(qH ok c i=true∧∃s',L n (i:Int) s=some (e s')∧inv N s')∨(qH ok c i=false∧L n (i:Int) s=some b)
 |0,i,n,s,h,hn,hs=>by
  obtain⟨n,rfl⟩:∃m,n=m+1:=⟨n-1,by omega⟩;have:i=N:=by omega
  subst this;exact .inl ⟨rfl,s,bR n s hs,hs⟩
 |c+1,i,n,s,h,hn,hs=>by
  obtain⟨n,rfl⟩:∃m,n=m+1:=⟨n-1,by omega⟩;obtain⟨h1,h2⟩:=aL n i s (by omega) hs;unfold qH;cases ho:ok i with
  |true=>
   obtain⟨s',h3,h4⟩:=h1 ho;rw[h3];exact Pg ok e b inv bR aL c (i+1) n s' (by omega) (by omega) h4
  |false=>simp_all
def dS (l:List zH)(i j:Nat):Int:=zP (gS i j) l-zP (gS j i) l
def uD (b p:EQ)(l:List zH)(i j:Nat):Bool:= !(decide (zP (gS i j) l>0)&&(!decide (cell b i j= -1)&&decide (cell p i j+dS l i j>cell b i j)))
def hY (a:List yA)(b:EQ)(m:AC)(p:EQ)(l:List zH)(i:Nat):Bool:=
 !decide (zP (gN i) l + zP (gR i) l = 0) && (!qH (uD b p l i) a.length 0 || (decide ((a.getD i ad).1+(a.getD i ad).2.1+zP (gB i) l<0)||
  ((decide (zP (gN i) l>0)&&decide ((a.getD i ad).1+(a.getD i ad).2.1+zP (gB i) l<jH (a.getD i ad).2.2 (zP (gR i) l)))||
   (!decide (m.getD i 0= -1)&&decide (qJ (cell p i) a.length-zP (gB i) l>m.getD i 0)))))
theorem Fi {n l}(hl:wK n l) i j:-70368744177664≤dS l i j∧dS l i j≤70368744177664:=by
 have h1:=uB hl i j;have h2:=uB hl j i;unfold dS;omega
theorem W9 {k:Nat}{a:List yA}{b:EQ}{m:AC}{p:EQ}{l:List zH}(hk:100<k)(hb:wN a b m p)(hl:wK a.length l){i:Nat}(hi:i<a.length)(x y n0 dR:Int)
  (DV:-6917529027641081856≤n0∧n0≤6917529027641081856) (qw:-576460752303423488≤dR∧dR≤576460752303423488):
  sW k k l i x y n0 dR 0 a b m p=some (bif qH (uD b p l i) a.length 0 then .inl ((i:Int),x,y,n0-qJ (dS l i) a.length,dR+qJ (dS l i) a.length,a,b,m,p) else .inr true):=by
 have h6:=hb.n6;have bS:l.length<k:=by have:=hl.2;omega
 have := Pg (L := fun c j (s : Int × Int) => sW k c l i x y s.1 s.2 j a b m p) (N := a.length) (uD b p l i) (fun s => .inl ((i : Int), x, y, s.1, s.2, a, b, m, p)) (.inr true) (fun j s => s = (n0 - qJ (dS l i) j, dR + qJ (dS l i) j)) (fun c s hs=>by
   show Fj k _ l i x y s.1 s.2 a.length a b m p=_;unfold Fj;simp only [qU, ab (Nat.lt_irrefl _), ak]) (fun c j s hj hs=>by
   have DX:=xu (fun j=>Fi hl i j) j;have El:=Fi hl i j;have hj1:(j:Int)*70368744177664≤6*70368744177664:=by omega
   have qw:=hb.nums.net i hi j hj;have e1:sW k (c+1) l i x y s.1 s.2 j a b m p=bif uD b p l i j then sW k c l i x y (n0-qJ (dS l i) (j+1)) (dR+qJ (dS l i) (j+1)) ((j+1:Nat):Int) a b m p else some (.inr true):=by
    show Fj k _ l i x y s.1 s.2 j a b m p=_;unfold Fj;simp only[qC,qD hj (show a.length<9223372036854775808 by omega),qU,ao,aa hi,aa hj,ag,W5 bS hl,ae,hb.bl,hb.br i hi,hb.pl,hb.pr i hi];have ed:zA (zP (gS i j) l-zP (gS j i) l)=dS l i j:=zO (by have:=El.1;unfold dS at this;omega) (by have:=El.2;unfold dS at this;omega);rw[ed];have e2:zA (s.1-dS l i j)=n0-qJ (dS l i) (j+1):=by
     rw[hs];show zA (n0-qJ (dS l i) j-dS l i j)=n0-(qJ (dS l i) j+dS l i j);rw[zO (by omega) (by omega)];omega
    have e3:zA (s.2+dS l i j)=dR+qJ (dS l i) (j+1):=by
     rw[hs];show zA (dR+qJ (dS l i) j+dS l i j)=dR+(qJ (dS l i) j+dS l i j);rw[zO (by omega) (by omega)];omega
    rw[e2,e3];show(bif decide (zP (gS i j) l>0) then(bif !decide (cell b i j= -1) then(bif decide (zA (cell p i j+dS l i j)>cell b i j) then _ else _) else _) else _)=_;rw[zO (x:=cell p i j+dS l i j) (by omega) (by omega)];unfold uD;cases decide (zP (gS i j) l>0)<;>cases decide (cell b i j= -1)<;>cases decide (cell p i j+dS l i j>cell b i j)<;>rfl
   refine⟨fun ho=>⟨_,?_,rfl⟩,fun ho=>?_⟩
   ·rw[e1,ho];rfl
   ·rw [e1, ho]; rfl) a.length 0 k (n0, dR) (by omega) (by omega) (by
    show(n0,dR)=(n0-0,dR+0);rw[Int.sub_zero,Int.add_zero])
 rcases this with⟨h1,s,h2,h3⟩|⟨h1,h2⟩
 ·have Ph:sW k k l i x y n0 dR 0 a b m p=_:=h2;rw[Ph,h1,h3];rfl
 ·have Ph:sW k k l i x y n0 dR 0 a b m p=_:=h2;rw[Ph,h1];rfl
theorem yEu {n l}(hl:∀p∈l,yI n p) i (hi:i<n):qJ (dS l i) n= -zP (gB i) l:=yHd hl i hi
theorem yMv {k a b m p l}(hk:100<k)(hb:wN a b m p)(hl:wK a.length l){i}(hi:i<a.length):Pj k a b m p l i=some (hY a b m p l i):=by
 have h6:=hb.n6;have bS:l.length<k:=by have:=hl.2;omega
 have hN:=yN3 hl i;have hR:=BB hl i;have hx:=hb.acct i hi;simp only[fk,bc,aX] at hx;have BD:-4611686018427387904<(a.getD i ad).1∧(a.getD i ad).1<4611686018427387904∧0≤(a.getD i ad).2.1∧(a.getD i ad).2.1≤2305843009213693952∧0≤(a.getD i ad).2.2∧(a.getD i ad).2.2≤2305843009213693952:=by grind
 have qw:=xu (Pf hb hi) a.length;unfold Pj;rw[yZx bS hl];simp only[ae];rw[zO (x:=zP (gN i) l+zP (gR i) l) (by omega) (by omega)];unfold hY;cases hz:decide (zP (gN i) l+zP (gR i) l=0) with
 |true=>rfl
 |false=>
  rw[qC,aa hi];simp only[ao];rw[W8 (by omega) (by omega) hi hb.pl (hb.pr i hi) (Pf hb hi)];simp only[ae];rw[zO (x:=(a.getD i (0,(0,0))).1+(a.getD i (0,(0,0))).2.1) (by omega) (by omega)];rw[W9 hk hb hl hi _ _ _ _ (by omega) (by omega),yEu hl.1 i hi];cases qH (uD b p l i) a.length 0 with
  |false=>rfl
  |true=>
   have hK:=vAu k (a.getD i ad).1 (a.getD i ad).2.1 (a.getD i ad).2.2 (zP (gR i) l) (by omega) (by omega) hR.1;simp[qC,hb.ml];grind
theorem Xa {k:Nat}{a:List yA}{b:EQ}{m:AC}{p:EQ}{l:List zH}(hk:100<k)(hb:wN a b m p)(hl:wK a.length l):∃r,uE k a b m p l=some r∧(r=[]↔qH (fun i=> !hY a b m p l i) a.length 0=true):=by
 have h6:=hb.n6;obtain ⟨r, h1, h2⟩ := yX (L := fun c i (r : AC) => uF k c l i a b m p r) (N := a.length) (fun r => r) (fun i r => (r = [] ↔ ∀ j, j < i → hY a b m p l j = false) ∧ r.length ≤ i) (fun c r hr=>by
   show sX k _ l a.length a b m p r=_;unfold sX;simp only [qU, ab (Nat.lt_irrefl _), ak]) (fun c i r hi hr=>by
   have aP:zL (r.length+1) 8=true:=qI (by omega) (by omega);have e:uF k (c+1) l i a b m p r=uF k c l ((i+1:Nat):Int) a b m p (bif hY a b m p l i then r++[(i:Int)] else r):=by
    show sX k _ l i a b m p r=_;unfold sX;simp only[qD hi (show a.length<9223372036854775808 by omega),qU,aa hi,ag,yMv hk hb hl hi,ae,aP];cases hY a b m p l i<;>rfl
   refine⟨_,e,?_⟩;cases hs:hY a b m p l i with
   |true=>
    refine⟨⟨fun h=>?_,fun h=>?_⟩,by simp only[ag,au,List.length_cons,List.length_nil];omega⟩
    ·simp at h
    ·rw[h i (Nat.lt_succ_self i)] at hs;cases hs
   |false=>
    refine⟨⟨fun h j hj=>?_,fun h=>?_⟩,by simp only[ak];omega⟩
    ·by_cases c:j=i
     ·subst c;exact hs
     ·exact hr.1.1 h j (by omega)
    ·exact hr.1.2 fun j hj=>h j (by omega)) (s:=[]) (show a.length<k by omega) ⟨⟨fun _ j hj=>absurd hj (Nat.not_lt_zero j),fun _=>rfl⟩,Nat.le_refl 0⟩
 unfold uE;rw[h1];refine⟨r,rfl,h2.1.trans ?_⟩;rw[gH];exact⟨fun h j hj=>by rw[h j hj];rfl,fun h j hj=>by have:=h j hj;simpa using this⟩
def xE (a:List yA)(b:EQ)(m:AC)(p:EQ)(l:List zH):Bool:=(ot a.length l&&decide (l.length≤64))&&qH (fun i=> !hY a b m p l i) a.length 0
theorem vHx {k a b m p}{l:List zH}(hk:100<k)(hb:wN a b m p)(hl:l.length≤80):Kr k a b m p l=some (xE a b m p l):=by
 unfold Kr xE;rw[yK9 (by omega) (by omega)];cases hm:(ot a.length l&&decide (l.length≤64)) with
 |false=>rfl
 |true=>
  simp  at hm;obtain⟨r,h1,h2⟩:=Xa hk hb ⟨BA.1 hm.1,hm.2⟩;simp_all
theorem vQm {k n i p}(hk:n<k)(hn:n≤100)(hi:i<n)(hp:p.length=n)(hr:(p.getD i []).length=n)(hb:∀j,-72057594037927936≤cell p i j∧cell p i j≤72057594037927936)(a:List yA) b m:
  Pk k a b m p i=some (qJ (cell p i) n):=by
 obtain ⟨s, h1, h2⟩ := yX (L := fun c j (s : Int) => Fk k c s (p.getD i []) n j) (N := n) (fun s => s) (fun j s => s = qJ (cell p i) j) (fun c s hs=>by
   show Fl k _ s (p.getD i []) n n=_;unfold Fl;simp) (fun c j s hj hs=>by
   refine⟨qJ (cell p i) (j+1),?_,rfl⟩;show Fl k _ s (p.getD i []) n j=_;have h1:=xu hb j;have h2:=hb j;unfold Fl;simp only[qC,qD hj (by grind),qU,hr,aa hj];show Fk k c (zA (s+cell p i j)) _ _ _=_;rw[hs,zO (by omega) (by omega)];rfl) (s:=0) hk rfl
 unfold Pk;simp[qC];simp_all
theorem yHu k {n:Nat}(hn:n≤6):Ks k n=some true:=by
 unfold Ks;grind
theorem yX4 {α:Type}(v z:α) n i (hi:i<n):(List.replicate i v++List.replicate (n-i) z).set i v=List.replicate (i+1) v++List.replicate (n-(i+1)) z:=by
 have e:List.replicate (n-i) z=z::List.replicate (n-(i+1)) z:=by
  rw[show n-i=(n-(i+1))+1 by omega];rfl
 rw[List.set_append_right _ _ (by simp),List.length_replicate,Nat.sub_self,e];simp[List.replicate_succ']
theorem vFh {k n}(hk:n<k)(hn:n≤6) v:BE k n v=some (List.replicate n v):=by
 unfold BE;rw[yHu k hn];obtain ⟨s, h1, h2⟩ := yX (L := fun c i (s : AC) => Kt k c v n i s) (N := n) (fun s => s) (fun i s => s = List.replicate i v ++ List.replicate (n - i) 0) (fun c s hs=>by
   show Fm k _ v n n s=_;unfold Fm;simp) (fun c i s hi hs=>by
   refine⟨_,?_,rfl⟩;show Fm k _ v n i s=_;have hl:s.length=n:=by grind
   unfold Fm;simp[qC,qD hi (by grind),aa hi,hl];rw[hs,yX4 v 0 n i hi]) (s:=List.replicate n 0) hk (by simp)
 grind
theorem Xb {k n}(hk:n<k)(hn:n≤6) v:Fo k n v=some (List.replicate n (List.replicate n v)):=by
 unfold Fo;rw[yHu k hn];obtain ⟨s, h1, h2⟩ := yX (L := fun c i (s : EQ) => Ku k c n v n i s) (N := n) (fun s => s) (fun i s => s = List.replicate i (List.replicate n v) ++ List.replicate (n - i) []) (fun c s hs=>by
   show Fp k _ n v n n s=_;unfold Fp;simp) (fun c i s hi hs=>by
   refine⟨_,?_,rfl⟩;show Fp k _ n v n i s=_;have hl:s.length=n:=by grind
   unfold Fp;simp[qC,qD hi (by grind),aa hi,hl,vFh hk hn];rw[hs,yX4 (List.replicate n v) [] n i hi]) (s:=List.replicate n []) hk (by simp)
 grind
def uG (a:List yA)(b:EQ)(m:AC)(p:EQ)(l:List zH):AC:=((List.range a.length).filter fun i=>hY a b m p l i).map fun(i:Nat)=>(i:Int)
structure Pl (n:Nat) (l:List zH) (r2 r3:AC) (m4:EQ):Prop where
 l2:r2.length=n
 l3:r3.length=n
 l4:m4.length=n
 r4:∀i,i<n→(m4.getD i []).length=n
 more:∀i,i<n→r2.getD i 0=zP (gB i) l
 spent:∀i,i<n→r3.getD i 0=zP (gR i) l
 sent:∀i,i<n→∀j,j<n→cell m4 i j=dS l i j
def Kv (p:zH)(r:AC):AC:=
 let y0:=r.set p.2.1.toNat (zA (r.getD p.2.1.toNat 0-p.2.2.2.1))
 y0.set p.2.2.1.toNat (zA (y0.getD p.2.2.1.toNat 0+p.2.2.2.1))
def Kw (p:zH)(r:AC):AC:=bif !decide (p.2.2.2.2.1=3) then r.set p.2.1.toNat (zA (r.getD p.2.1.toNat 0+p.2.2.2.1)) else r
theorem vVu {n p}(h:yI n p){r}(hr:r.length=n){i}(hi:i<n)(hb:∀i,i<n→-4611826755915743232<r.getD i 0∧r.getD i 0<4611826755915743232):(Kv p r).getD i 0=r.getD i 0+gB i p:=by
 obtain⟨f0,f1,t0,t1,ne,a1,a2,c1,c3⟩:=h;obtain⟨f,hf⟩:∃f:Nat,p.2.1=f:=⟨p.2.1.toNat,by omega⟩;obtain⟨t,ht⟩:∃t:Nat,p.2.2.1=t:=⟨p.2.2.1.toNat,by omega⟩;have O7:f≠t:=by omega
 have iD:f<n:=by omega
 have g9:t<n:=by omega
 unfold Kv gB;simp only[hf,ht,ao];have b1:=hb f iD;have b2:=hb t g9;have key:∀x,(r.set f (zA (r.getD f 0-p.2.2.2.1))).getD x 0=if f=x then zA (r.getD f 0-p.2.2.2.1) else r.getD x 0:=by grind
 rw[fQ,List.length_set,key t,if_neg O7,key i];by_cases h1:t=i
 ·subst h1;rw[if_pos (by grind),if_pos rfl,if_neg (by omega),zO (by omega) (by omega)];omega
 ·rw[if_neg (by grind),if_neg (c:=((t:Int)=i)) (by omega)];by_cases h2:f=i
  ·subst h2;rw[if_pos rfl,if_pos rfl,zO (by omega) (by omega)];omega
  omega
theorem vVd {n p}(h:yI n p){r}(hr:r.length=n){i}(hi:i<n)(hb:∀i,i<n→-4611826755915743232<r.getD i 0∧r.getD i 0<4611826755915743232):(Kw p r).getD i 0=r.getD i 0+gR i p:=by
 obtain⟨f0,f1,t0,t1,ne,a1,a2,c1,c3⟩:=h;obtain⟨f,hf⟩:∃f:Nat,p.2.1=f:=⟨p.2.1.toNat,by omega⟩;have iD:f<n:=by omega
 have b1:=hb f iD;unfold Kw gR;simp only[hf,ao];by_cases hc:p.2.2.2.2.1=3
 ·simp_all
 ·rw[ab hc];simp only[bG,ag];rw[fQ];by_cases h2:f=i
  ·subst h2;rw[if_pos (by grind),if_pos (by grind),zO (by omega) (by omega)]
  omega
theorem vMm l p i j:dS (l++[p]) i j=dS l i j+gS i j p-gS j i p:=by
 unfold dS;rw[mq,mq];dsimp only[zP];omega
theorem Pm {α:Type} n i (v d:α)(h:i<n):(List.replicate n v).getD i d=v:=by
 simp_all
theorem Xc {k n l}(hk:100<k)(hn:n≤6)(hl:wK n l):∃r2 r3 m4,Pn k n l=some (r2,r3,m4)∧Pl n l r2 r3 m4:=by
 have ou:=hl.2;have := yX (L := fun c i (s : AC × AC × EQ) => Kx k c l l.length i s.1 s.2.1 s.2.2) (N := l.length) (fun s => s) (fun i s => Pl n (l.take i) s.1 s.2.1 s.2.2) (fun c s hs=>by
   show Fq k _ l l.length l.length s.1 s.2.1 s.2.2=_;unfold Fq;simp) (fun c i s hi hs=>by
   have bU:yI n (l.getD i pd):=hl.1 _ (fg hi);refine⟨(Kv (l.getD i pd) s.1,Kw (l.getD i pd) s.2.1,xA (l.getD i pd) s.2.2),?_,?_⟩
   ·show Fq k _ l l.length i s.1 s.2.1 s.2.2=_;unfold Fq Kv Kw xA;simp only[qC,qD hi (by grind),qU,ao,aa hi,ag];obtain⟨f0,f1,t0,t1,ne,a1,a2,c1,c3⟩:=bU;obtain⟨f,hf⟩:∃f:Nat,(l.getD i pd).2.1=f:=⟨(l.getD i pd).2.1.toNat,by omega⟩;obtain⟨t,ht⟩:∃t:Nat,(l.getD i pd).2.2.1=t:=⟨(l.getD i pd).2.2.1.toNat,by omega⟩;have iD:f<n:=by omega
    have g9:t<n:=by omega
    have r1:=O6 (x:=zA ((s.2.2.getD f []).getD t 0+(l.getD i pd).2.2.2.1)) (t:=t) hs.l4 hs.r4 iD;simp only[hf,ht,ao,qC,hs.l2,hs.l3,hs.l4,List.length_set,hs.r4 f iD,r1 t g9,aa iD,aa g9,ag];grind
   ·have aS:=hl.take i;have hp := vFv bU hs.l4 hs.r4 (fun i' bK j' mY=>by
     rw[hs.sent i' bK j' mY];have:=Fi aS i' j';omega)
    have hbM:∀i',i'<n→-4611826755915743232<s.1.getD i' 0∧s.1.getD i' 0<4611826755915743232:=fun i' bK=>by
     rw[hs.more i' bK];have:=W1 aS i';omega
    have hbS:∀i',i'<n→-4611826755915743232<s.2.1.getD i' 0∧s.2.1.getD i' 0<4611826755915743232:=fun i' bK=>by
     rw[hs.spent i' bK];have:=BB aS i';omega
    refine⟨by unfold Kv;simp[hs.l2],by unfold Kw;cases decide ((l.getD i pd).2.2.2.2.1=3)<;>simp[hs.l3],hp.1,hp.2.1,fun i' bK=>?_,fun i' bK=>?_,fun i' bK j' mY=>?_⟩
    ·rw[vVu bU hs.l2 bK hbM,hs.more i' bK,←fi l i pd hi,mq];dsimp only[zP];omega
    ·rw[vVd bU hs.l3 bK hbS,hs.spent i' bK,←fi l i pd hi,mq];dsimp only[zP];omega
    ·rw[hp.2.2 i' bK j' mY,hs.sent i' bK j' mY,←fi l i pd hi,vMm]) (n:=k) (s:=(List.replicate n 0,List.replicate n 0,List.replicate n (List.replicate n 0))) (by omega) ⟨by simp,by simp,by simp,by grind,fun i hi=>by rw[Pm n i _ _ hi];rfl,fun i hi=>by rw[Pm n i _ _ hi];rfl,fun i hi j hj=>by
    unfold cell;rw[Pm n i _ _ hi,Pm n j _ _ hj];rfl⟩
 obtain⟨s,h1,h2⟩:=this;rw[List.take_of_length_le (Nat.le_refl _)] at h2;refine⟨s.1,s.2.1,s.2.2,?_,h2⟩;unfold Pn;rw[vFh (by omega) hn,Xb (by omega) hn];simp_all
theorem Xd {k}{l:List zH}(hk:l.length<k)(hl:l.length<9223372036854775808) i:Po k l i=some (!qH (fun x=> !decide ((l.getD x pd).2.1=i)) l.length 0):=by
 obtain ⟨x, h1, h2⟩ := xq (L := fun c x => Ky k c l l.length x i) (N := l.length) (fun x => decide ((l.getD x pd).2.1 = i)) (fun c=>by
   show Fs k _ l l.length l.length i=_;unfold Fs;simp) (fun c x hx=>by
   show Fs k _ l l.length x i=_;unfold Fs Xe;simp[qC,qD hx hl,aa hx]) hk
 unfold Po Xf;grind
theorem vBo {n:Nat}{l:List zH}(hl:∀p∈l,yI n p)(i:Nat):qH (fun x=> !decide ((l.getD x pd).2.1=i)) l.length 0=decide (zP (gN i) l+zP (gR i) l=0):=by
 have hN:=xr (g:=gN i) (l:=l) fun p hp=>(O9 (hl p hp) i).1
 have hR:=xr (g:=gR i) (l:=l) fun p hp=>(O4 (hl p hp) i).1
 have e:zP (gN i) l+zP (gR i) l=zP (fun p:zH=>if p.2.1=(i:Int) then p.2.2.2.1 else 0) l:=by
  rw[←ySb];refine Oy fun p hp=>?_
  unfold gN gR;omega
 rw[e];have h:∀(l:List zH),(∀p∈l,yI n p)→((∀p∈l,¬p.2.1=i)↔zP (fun p:zH=>if p.2.1=(i:Int) then p.2.2.2.1 else 0) l=0):=by
  intro l
  induction l with
  |nil=>intro _;simp[zP]
  |cons q l ih=>
   intro hm;have ih:=ih (by grind);have hq:=hm q (by simp);have h0:0≤zP (fun p:zH=>if p.2.1=i then p.2.2.2.1 else 0) l:=xr fun p hp=>by
    have:=(hm p (by grind)).a1;omega
   unfold zP;by_cases c:q.2.1=i
   ·rw[if_pos c];have:=hq.a1;grind
   simp_all
 have bj:(∀p∈l,¬p.2.1=i)↔qH (fun x=> !decide ((l.getD x pd).2.1=i)) l.length 0=true:=by
  rw[gH];constructor
  ·intro h j hj
   simpa using h _ (fg hj)
  ·intro h p hp;obtain⟨j,hj,rfl⟩:=List.getElem_of_mem hp;have:=h j hj
   simpa[List.getD,hj] using this
 simp_all
def Ft (n Kz:Int):Bool:= !decide (Kz= -1)&&decide (n>Kz)
theorem yEj k n Kz:Fu k n Kz=some (Ft n Kz):=by
 unfold Fu Ft;grind
theorem vWh k b c r s (h:-9223372036854775808≤r-s)(h':r<9223372036854775808)(hs:0≤s):xB k b c r s=some (jH r s):=by
 unfold xB jH wR;rw[zO h (by omega),ak];grind
def BF (b p:EQ)(l:List zH)(i:Nat)(short:Bool)(q:zH):Bool:=
 decide (q.2.1=i)&&((decide (q.2.2.2.2.1=3)&&short)||Ft (cell p i q.2.2.1.toNat+dS l i q.2.2.1.toNat) (cell b i q.2.2.1.toNat))
theorem Xg {k a b m p l}(hk:100<k)(hb:wN a b m p)(hl:wK a.length l){r2 r3 m4}(hm:Pl a.length l r2 r3 m4){i}(hi:i<a.length) bal cr res n0 (kO:0≤res∧res≤2305843009213693952):
  Pp k l i bal cr res r2 r3 m4 n0 a b m p=some (!qH (fun x=> !BF b p l i (decide (n0<jH res (zP (gR i) l))) (l.getD x pd)) l.length 0):=by
 have ou:=hl.2;have hR:=BB hl i;obtain ⟨x, h1, h2⟩ := xq (L := fun c x => KA k c l l.length x i bal cr res r2 r3 m4 n0 a b m p) (N := l.length) (fun x => BF b p l i (decide (n0 < jH res (zP (gR i) l))) (l.getD x pd)) (fun c=>by
   show Fv k _ l l.length l.length i bal cr res r2 r3 m4 n0 a b m p=_;unfold Fv;simp) (fun c x hx=>by
   show Fv k _ l l.length x i bal cr res r2 r3 m4 n0 a b m p=_;have bU:yI a.length (l.getD x pd):=hl.1 _ (by grind);unfold Fv;simp only[qC,qD hx (by grind),qU,ao,aa hx];generalize l.getD x (0,(0,(0,(0,(0,(0,0))))))=q at bU⊢;obtain⟨id,f,t,am,cl,st,ti⟩:=q;obtain⟨f0,f1,t0,t1,ne,a1,a2,c1,c3⟩:=bU;dsimp only at f0 f1 t0 t1 ne a1 a2 c1 c3⊢;obtain⟨t,rfl⟩:∃y:Nat,t=y:=⟨t.toNat,by omega⟩;have g9:t<a.length:=by omega
   unfold Xh BF;cases hf:decide (f=(i:Int)) with
   |false=>simp
   |true=>
    have e1:(r3.getD i 0)=zP (gR i) l:=hm.spent i hi;have e2:(m4.getD i []).getD t 0=dS l i t:=hm.sent i hi t g9;have qw:=hb.nums.net i hi t g9;have hd:=Fi hl i t;have e3:zA ((p.getD i []).getD t 0+dS l i t)=cell p i t+dS l i t:=zO (by show _≤cell p i t+dS l i t;omega) (by show cell p i t+dS l i t<_;omega);simp only[qC,hm.l3,hm.l4,hm.r4 i hi,hb.pl,hb.pr i hi,hb.bl,hb.br i hi,aa hi,aa g9,ao,e1,e2,e3,vWh k bal cr res (zP (gR i) l) (by omega) (by omega) hR.1,ae,yEj];cases decide (cl=3)<;>cases decide (n0<jH res (zP (gR i) l))<;>rfl) (n:=k) (by omega)
 unfold Pp Xi;grind
theorem Xj {α g}:∀{l:List α},(∀p∈l,0≤g p)→(0<zP g l↔∃p∈l,0<g p)
 |[],_=>by simp[zP]
 |q::l,h=>by
  have ih:=Xj (g:=g) (l:=l) (by grind);have h0:=xr (g:=g) (l:=l) (by grind);unfold zP;grind
theorem Pq {N p}:qH p N 0=false↔∃j,j<N∧p j=false:=by
 constructor
 ·apply Classical.byContradiction;intro hn;have:qH p N 0=true:=gH.2 (by grind);simp_all
 ·rintro⟨j,hj,hp⟩
  cases h:qH p N 0 with
  |false=>rfl
  |true=>rw[gH.1 h j hj] at hp;cases hp
theorem vRl {a:List yA}{b p l}(hl:wK a.length l){i}(hi:i<a.length) short:
  (!qH (fun x=> !BF b p l i short (l.getD x pd)) l.length 0)=(!qH (uD b p l i) a.length 0||(decide (zP (gN i) l>0)&&short)):=by
 have hN:=Xj (g:=gN i) (l:=l) fun p hp=>(O9 (hl.1 p hp) i).1
 have hS:=fun j=>Xj (g:=gS i j) (l:=l) fun p hp=>(W0 (hl.1 p hp) i j).1
 rw[Bool.eq_iff_iff];simp only[Bool.not_eq_true',Bool.or_eq_true,bc,aX];rw[Pq,Pq];constructor
 ·rintro⟨x,hx,hb⟩
  have bU:=hl.1 _ (fg (d:=pd) hx);have aZ:=fg (d:=pd) hx;generalize l.getD x pd=q at hb bU aZ;simp only[BF,Bool.not_eq_false',bc,Bool.or_eq_true,aX] at hb;obtain⟨hf,hb⟩:=hb;rcases hb with⟨hc,hs⟩|ho
  ·refine .inr ⟨hN.2 ⟨q,aZ,?_⟩,hs⟩;unfold gN;rw[if_pos ⟨hf,hc⟩];have:=bU.a1;omega
  ·have h1:=bU.t0;have h2:=bU.t1;refine .inl ⟨q.2.2.1.toNat,by omega,?_⟩;unfold uD;have lY:zP (gS i q.2.2.1.toNat) l>0:=(hS _).2 ⟨q,aZ,by
    unfold gS;rw[if_pos (by grind)];have:=bU.a1;omega⟩
   rw[aa lY];unfold Ft at ho;simp_all
 ·rintro(⟨j,hj,hb⟩|⟨hp,hs⟩)
  ·simp only[uD,Bool.not_eq_false',bc,aX] at hb;obtain⟨lY,ho⟩:=hb;obtain⟨q,hq,hg⟩:=(hS j).1 lY;obtain⟨x,hx,rfl⟩:=List.getElem_of_mem hq;refine⟨x,hx,?_⟩;have e:l.getD x pd=l[x]:=by simp[List.getD,hx]
   rw[e];unfold gS at hg;by_cases c:l[x].2.1=(i:Int)∧l[x].2.2.1=(j:Int)
   ·unfold BF Ft;simp_all
   ·rw[if_neg c] at hg;omega
  ·obtain⟨q,hq,hg⟩:=hN.1 hp;obtain⟨x,hx,rfl⟩:=List.getElem_of_mem hq;refine⟨x,hx,?_⟩;have e:l.getD x pd=l[x]:=by simp[List.getD,hx]
   rw[e];unfold gN at hg;by_cases c:l[x].2.1=(i:Int)∧l[x].2.2.2.2.1=3
   ·unfold BF;simp_all
   ·rw[if_neg c] at hg;omega
theorem Xk {k a b m p l}(hk:100<k)(hb:wN a b m p)(hl:wK a.length l){r2 r3 m4}(hm:Pl a.length l r2 r3 m4){i}(hi:i<a.length)(hs:decide (zP (gN i) l+zP (gR i) l=0)=false):
  Pr k r2 r3 m4 a b m p i l=some (hY a b m p l i):=by
 have h6:=hb.n6;have ou:=hl.2;have hB:=W1 hl i;have hx:=hb.acct i hi;simp only[fk,bc,aX] at hx;have BD:-4611686018427387904<(a.getD i ad).1∧(a.getD i ad).1<4611686018427387904∧0≤(a.getD i ad).2.1∧(a.getD i ad).2.1≤2305843009213693952∧0≤(a.getD i ad).2.2∧(a.getD i ad).2.2≤2305843009213693952:=by grind
 have qw:=xu (Pf hb hi) a.length;have e1:r2.getD i 0=zP (gB i) l:=hm.more i hi;unfold Pr;simp only[qC,aa hi,ag,ao,hm.l2,hm.l4,e1,hm.r4 i hi];rw[vQm (by omega) (by omega) hi hb.pl (hb.pr i hi) (Pf hb hi)];rw[zO (x:=(a.getD i ad).1+(a.getD i ad).2.1) (by omega) (by omega),zO (x:=(a.getD i ad).1+(a.getD i ad).2.1+zP (gB i) l) (by omega) (by omega)];unfold hY;rw[hs];cases hn:decide ((a.getD i ad).1+(a.getD i ad).2.1+zP (gB i) l<0) with
 |true=>simp
 |false=>
  obtain ⟨s, q1, q2⟩ := yX (L := fun c j (s : Int) => BG k c l s (m4.getD i []) a.length j r2 r3 m4 a b m p i (a.getD i ad).1 (a.getD i ad).2.1 (a.getD i ad).2.2 ((a.getD i ad).1 + (a.getD i ad).2.1 + zP (gB i) l)) (N := a.length) (fun s => (l, s, r2, r3, m4, a, b, m, p, (i : Int), (a.getD i ad).1, (a.getD i ad).2.1, (a.getD i ad).2.2, (a.getD i ad).1 + (a.getD i ad).2.1 + zP (gB i) l)) (fun j s => s = qJ (cell p i) a.length + qJ (dS l i) j) (fun c s hs=>by
    show Fw k _ l s (m4.getD i []) a.length a.length r2 r3 m4 a b m p i (a.getD i ad).1 (a.getD i ad).2.1 (a.getD i ad).2.2 ((a.getD i ad).1+(a.getD i ad).2.1+zP (gB i) l)=_;unfold Fw;simp) (fun c j s hj hs=>by
    refine⟨qJ (cell p i) a.length+qJ (dS l i) (j+1),?_,rfl⟩;show Fw k _ l s (m4.getD i []) a.length j r2 r3 m4 a b m p i (a.getD i ad).1 (a.getD i ad).2.1 (a.getD i ad).2.2 ((a.getD i ad).1+(a.getD i ad).2.1+zP (gB i) l)=_;have e2:(m4.getD i []).getD j 0=dS l i j:=hm.sent i hi j hj;have DX:=xu (fun j=>Fi hl i j) j;have El:=Fi hl i j;unfold Fw;simp only[qC,qD hj (by grind),qU,ao,hm.r4 i hi,aa hj,ag,e2];rw[hs,zO (x:=qJ (cell p i) a.length+qJ (dS l i) j+dS l i j) (by omega) (by omega),Int.add_assoc];rfl) (n:=k) (s:=qJ (cell p i) a.length) (by omega) (by show _=_+0;omega)
  have q1':BG k k l (qJ (cell p i) a.length) (m4.getD i []) a.length 0 r2 r3 m4 a b m p i (a.getD i ad).1 (a.getD i ad).2.1 (a.getD i ad).2.2 ((a.getD i ad).1+(a.getD i ad).2.1+zP (gB i) l)=_:=q1;simp only[ak,ae];rw[show BG k k l (qJ (cell p i) a.length) (m4.getD i []) a.length 0 r2 r3 m4 a b m p i (a.getD i (0,(0,0))).1 (a.getD i (0,(0,0))).2.1 (a.getD i (0,(0,0))).2.2 ((a.getD i ad).1+(a.getD i ad).2.1+zP (gB i) l)=_ from q1'];simp only[ae,qC,hb.ml,aa hi,ag,ao,yEj];rw[Xg hk hb hl hm hi _ _ _ _ (by grind),vRl hl hi,q2,yEu hl.1 i hi];have en:qJ (cell p i) a.length+-zP (gB i) l=qJ (cell p i) a.length-zP (gB i) l:=by omega
  rw[en];unfold Ft;grind
theorem yO5 f i:((List.range (i+1)).filter f).map (fun(x:Nat)=>(x:Int))=(((List.range i).filter f).map fun(x:Nat)=>(x:Int))++(bif f i then[(i:Int)] else[]):=by
 rw[List.range_succ,List.filter_append,List.map_append];grind
theorem Xl {k a b m p l}(hk:100<k)(hb:wN a b m p)(hl:wK a.length l):BH k a b m p l=some (uG a b m p l):=by
 have h6:=hb.n6;have ou:=hl.2;obtain⟨r2,r3,m4,g1,hm⟩:=Xc hk h6 hl;obtain ⟨r, h1, h2⟩ := yX (L := fun c i (r : AC) => Fx k c l a.length i a b m p r2 r3 m4 r) (N := a.length) (fun r => r) (fun i r => r = ((List.range i).filter fun i => hY a b m p l i).map fun (x : Nat) => (x : Int)) (fun c r hr=>by
   show Fy k _ l a.length a.length a b m p r2 r3 m4 r=_;unfold Fy;simp) (fun c i r hi hr=>by
   have hle:r.length≤i:=by
    grind
   have aP:zL (r.length+1) 8=true:=qI (by omega) (by omega);refine⟨_,?_,rfl⟩;show Fy k _ l a.length i a b m p r2 r3 m4 r=_;unfold Fy;simp only[qD hi (by grind),Xd (show l.length<k by omega) (by omega)];rw[vBo hl.1,yO5,←hr];cases hz:decide (zP (gN i) l+zP (gR i) l=0) with
   |true=>
    have:hY a b m p l i=false:=by unfold hY;simp_all
    simp_all
   |false=>
    rw[Xk hk hb hl hm hi hz];grind) (n:=k) (s:=[]) (by omega) rfl
 unfold BH;rw[g1];simp;have gD:Fx k k l a.length 0 a b m p r2 r3 m4 []=some r:=h1;rw[gD,h2];rfl
theorem yQ8 {k a b m p l}(hk:100<k)(hb:wN a b m p)(hl:wK a.length l):uE k a b m p l=some (uG a b m p l):=by
 have h6:=hb.n6;obtain ⟨r, h1, h2⟩ := yX (L := fun c i (r : AC) => uF k c l i a b m p r) (N := a.length) (fun r => r) (fun i r => r = ((List.range i).filter fun i => hY a b m p l i).map fun (x : Nat) => (x : Int)) (fun c r hr=>by
   show sX k _ l a.length a b m p r=_;unfold sX;simp) (fun c i r hi hr=>by
   have hle:r.length≤i:=by
    grind
   have aP:zL (r.length+1) 8=true:=qI (by omega) (by omega);refine⟨_,?_,rfl⟩;show sX k _ l i a b m p r=_;unfold sX;simp[qD hi (by grind),yMv hk hb hl hi];rw[yO5,←hr];grind) (s:=[]) (show a.length<k by omega) rfl
 unfold uE;have gD:uF k k l 0 a b m p []=some r:=h1;rw[gD,h2];rfl
theorem vKb {a b m p l}:decide (((uG a b m p l).length:Int)=0)=qH (fun i=> !hY a b m p l i) a.length 0:=by
 unfold uG;cases h:qH (fun i=> !hY a b m p l i) a.length 0 with
 |true=>
  rw[gH] at h;simp_all
 |false=>
  apply ab;intro h0;obtain⟨j,hj,hs⟩:=Pq.1 h;simp_all
theorem vNo {k}{l:List zH}(hk:l.length<k)(hl:l.length<9223372036854775808)(a:List yA) b m p:Ps k l a b m p=some (!ot a.length l):=by
 obtain ⟨x, h1, h2⟩ := xq (L := fun c i => KB k c l l.length i a b m p) (N := l.length) (fun i => !qu a.length (l.getD i pd)) (fun c=>by
  show Fz k _ l l.length l.length a b m p=_;unfold Fz;simp) (fun c i hi=>by
  show Fz k _ l l.length i a b m p=_;unfold Fz Xm;simp[qC,qD hi hl,aa hi,O2]) hk
 unfold Ps Xn;unfold ot;grind
theorem vY5 {k a b m p}{l:List zH}(hk:100<k)(hb:wN a b m p)(hl:l.length≤80):BI k a b m p l=some (xE a b m p l):=by
 unfold BI xE;have e:decide ((l.length:Int)≤64)=decide (l.length≤64):=by
  grind
 rw[e,vNo (by omega) (by omega)];cases bV:decide (l.length≤64) with
 |false=>simp
 |true=>
  cases hm:ot a.length l with
  |false=>rfl
  |true=>
   have hr:wK a.length l:=⟨BA.1 hm,by grind⟩;simp only[ag,ae,aB,bG,Xl hk hb hr,vKb,Bool.true_and]
def qM (l:List zH):Prop:=List.Pairwise (fun p q=>p.1≠q.1) l
theorem qM.filter {l}(h:qM l) f:qM (l.filter f):=List.Pairwise.filter f h
theorem BJ {α:Type} f (l:List α) i d (h:i<l.length):(l.take (i+1)).filter f=(l.take i).filter f++(bif f (l.getD i d) then[l.getD i d] else[]):=by
 rw[←fi l i d h,List.filter_append];rfl
theorem KC {α X:Type}(d:α){l:List α}{L:Nat→Int→List α→Option X}(f:α→Bool)(e:List α→X)(bR:∀n s,L (n+1) (l.length:Int) s=some (e s))
  (aL:∀n i s,i<l.length→s.length≤i→L (n+1) (i:Int) s=L n ((i+1:Nat):Int) (bif f (l.getD i d) then s++[l.getD i d] else s)) {n:Nat} (hn:l.length<n):
  L n 0 []=some (e (l.filter f)):=by
 obtain ⟨s', h1, h2⟩ := yX (L := L) (N := l.length) e (fun i s => s = (l.take i).filter f) (fun n s _ => bR n s) (fun n i s hi hs=>by
  refine⟨_,aL n i s hi ?_,?_⟩
  ·subst hs;have:=List.length_filter_le f (l.take i);rw[bQ] at this;omega
  ·subst hs;rw[BJ f l i d hi];cases f (l.getD i d)<;>simp) (s:=[]) hn (by simp)
 rw[h1,h2,List.take_length]
def qT (l:List zH):Prop:=l.length≤1000
theorem ow {n}(h:n≤1000):zL (n+1) 56=true:=qI (by omega) (by omega)
def kh (t:Int)(p:zH):Bool:=bif decide (t≥p.2.2.2.2.2.1) then decide (t≤p.2.2.2.2.2.2) else false
theorem Xo {k l}(hk:l.length<k)(hl:qT l) t:FA k l t=some (l.filter (kh t)):=by
 unfold FA Xp;have := KC pd (L := fun n i s => KD k n l l.length i t s) (kh t) id (fun n s=>by
  show FB k _ l l.length l.length t s=_;unfold FB;simp) (fun n i s hi hs=>by
  show FB k _ l l.length i t s=_;unfold FB Xq Xr;unfold qT at hl;simp[qC,qD hi (by grind),ow (show s.length≤1000 by omega)];unfold kh;grind) hk
 simp_all
theorem Xs {k l}(hk:l.length<k)(hl:qT l) t:FC k l t=some (l.filter (kh t)):=by
 unfold FC;have := KC pd (L := fun n i s => KE k n l t i s) (kh t) id (fun n s=>by
  show FD k _ l t l.length s=_;unfold FD;simp) (fun n i s hi hs=>by
  show FD k _ l t i s=_;unfold FD Xt;unfold qT at hl;simp[qC,qD hi (by grind),ow (show s.length≤1000 by omega)];unfold kh;grind) hk
 simp_all
def jB (f:Int)(p:zH):Bool:=decide (p.2.1=f)
theorem Pt {k l}(hk:l.length<k)(hl:qT l) f:uH k l f=some (l.filter (jB f)):=by
 unfold uH;have := KC pd (L := fun n i s => KF k n l f i s) (jB f) id (fun n s=>by
  show FE k _ l f l.length s=_;unfold FE;simp) (fun n i s hi hs=>by
  show FE k _ l f i s=_;unfold FE;unfold qT at hl;simp[qC,qD hi (by grind),ow (show s.length≤1000 by omega)];unfold jB;grind) hk
 simp_all
def Pu (r:List zH)(p:zH):Bool:=qH (fun x=>decide (((r.filter (jB p.2.1)).getD x pd).2.2.2.2.1=3)) (r.filter (jB p.2.1)).length 0
def Pv (r:List zH)(p:zH):Bool:=decide ((r.filter (jB p.2.1)).getD 0 pd=p)
def sY (r:List zH)(p:zH):Bool:=Pv r p||Pu r p
def vV (l:List zH)(t:Int):List zH:=(l.filter (kh t)).filter (sY (l.filter (kh t)))
theorem eq7 (p q:zH):((decide (p.1=q.1))&&((decide (p.2.1=q.2.1))&&((decide (p.2.2.1=q.2.2.1))&&((decide (p.2.2.2.1=q.2.2.2.1))&&((decide (p.2.2.2.2.1=q.2.2.2.2.1))&&((decide (p.2.2.2.2.2.1=q.2.2.2.2.2.1))&&(decide (p.2.2.2.2.2.2=q.2.2.2.2.2.2))))))))=decide (p=q):=by
 grind
theorem vRs {k n:Nat}(s7:Int)(r0 r1 r2:List zH)(hk:r2.length<n)(hl:qT r2):
  FF k n s7 true 0 r0 r1 r2=some (s7,qH (fun x=>decide ((r2.getD x pd).2.2.2.2.1=3)) r2.length 0,r0,r1,r2):=by
 obtain ⟨s', h1, h2⟩ := yX (L := fun n i s => FF k n s7 s i r0 r1 r2) (N := r2.length) (fun s => (s7, s, r0, r1, r2)) (fun i s => s = qH (fun x => decide ((r2.getD x pd).2.2.2.2.1 = 3)) i 0) (fun n s _=>by
  show FG k _ s7 s r2.length r0 r1 r2=_;unfold FG;simp only [qU, ab (Nat.lt_irrefl _), ak]) (fun n i s hi hs=>by
  refine⟨_,?_,rfl⟩;show FG k _ s7 s i r0 r1 r2=_;unfold FG;unfold qT at hl;simp only[qC,qD hi (show r2.length<9223372036854775808 by omega),qU,ao,aa hi,ag];have e:qH (fun x=>decide ((r2.getD x pd).2.2.2.2.1=3)) (i+1) 0=(s&&decide ((r2.getD i pd).2.2.2.2.1=3)):=by
   rw[Bool.eq_iff_iff,hs];simp only[gH,bc,aX];constructor
   ·intro h;exact⟨fun j hj=>h j (by omega),h i (by omega)⟩
   ·rintro⟨h1,h2⟩ j hj
    by_cases c:j=i
    ·subst c;exact h2
    ·exact h1 j (by omega)
  rw[e];cases s<;>rfl) (s:=true) hk rfl
 exact h1.trans (by rw[h2])
theorem yT9 {k l}(hk:l.length<k)(hl:qT l) t:KG k l t=some (vV l t):=by
 unfold KG;rw[Xs hk hl];unfold vV;have dQ:(l.filter (kh t)).length≤l.length:=by grind
 generalize l.filter (kh t)=r at dQ;unfold qT at hl;have := KC pd (L := fun n i s => KH k n i r s) (l := r) (sY r) id (fun n s=>by
  show FH k _ r.length r s=_;unfold FH;simp) (fun n i s hi hs=>by
  show FH k _ i r s=_;unfold FH;have wv:(r.filter (jB (r.getD i pd).2.1)).length≤r.length:=by grind
  have tR:0<(r.filter (jB (r.getD i pd).2.1)).length:=by
   apply List.length_pos_of_mem (a:=r.getD i pd);rw[List.mem_filter];exact⟨fg hi,by simp[jB]⟩
  have Xu:=Pt (k:=k) (l:=r) (by omega) (show r.length≤1000 by omega) (r.getD i pd).2.1;have b0:∀n:Nat,zB 0 n=decide (0<n):=fun n=>qC 0 n
  have e7:=eq7 ((r.filter (jB (r.getD i pd).2.1)).getD 0 pd) (r.getD i pd);simp only[ao];rw[Xu];simp only[ae];rw[vRs ((i:Nat):Int) r s _ (by omega) (show _≤1000 by omega)];simp[b0,qC,qD hi (by grind),ow (show s.length≤1000 by omega)];unfold sY Pv Pu;grind) (show r.length<k by omega)
 simp_all
def BK (f:Int)(q:zH):Bool:=decide (q.2.1=f)&& !decide (q.2.2.2.2.1=3)
theorem Xv {k}{l:List zH}(hk:l.length<k)(hl:l.length<9223372036854775808) i f t a c s e:
  Pw k l i f t a c s e=some (!qH (fun x=> !BK f (l.getD x pd)) l.length 0):=by
 obtain ⟨x, h1, h2⟩ := xq (L := fun n i' => KI k n l l.length i' i f t a c s e) (N := l.length) (fun x => BK f (l.getD x pd)) (fun n=>by
  show FI k _ l l.length l.length i f t a c s e=_;unfold FI;simp) (fun n j hj=>by
  show FI k _ l l.length j i f t a c s e=_;unfold FI Xw;simp[qC,qD hj hl];unfold BK;grind) hk
 unfold Pw Xx;grind
theorem vKk (r:List zH)(p:zH):Pu r p=true↔∀q∈r,q.2.1=p.2.1→q.2.2.2.2.1=3:=by
 unfold Pu;rw[gH];constructor
 ·intro h q hq he;have hm:q∈r.filter (jB p.2.1):=List.mem_filter.2 ⟨hq,by simp[jB,he]⟩;obtain⟨i,hi,e⟩:=List.getElem_of_mem hm;have:=h i hi;rw[bL,List.getElem?_eq_getElem hi,e] at this
  simpa using this
 ·intro h j hj;have hm:=fg (d:=pd) hj;rw[List.mem_filter] at hm;have:=h _ hm.1 (by simpa[jB] using hm.2)
  simpa using this
theorem Xy (r:List zH)(f:Int):qH (fun x=> !BK f (r.getD x pd)) r.length 0=true↔∀q∈r,q.2.1=f→q.2.2.2.2.1=3:=by
 rw[gH];constructor
 ·intro h q hq he;obtain⟨i,hi,e⟩:=List.getElem_of_mem hq;have:=h i hi;rw[bL,List.getElem?_eq_getElem hi,e] at this
  simpa[BK,he] using this
 ·intro h j hj;have:=h _ (fg (d:=pd) hj);simp only[BK,Bool.not_eq_true',Bool.and_eq_false_iff,Bool.not_eq_false',aX,decide_eq_false_iff_not];by_cases c:(r.getD j pd).2.1=f
  ·exact .inr (this c)
  ·exact .inl c
theorem qM.split {r}(h:qM r){i}(hi:i<r.length):∀q∈r.take i,q.1≠(r.getD i pd).1:=by
 intro q hq;have e:r.take (i+1)=r.take i++[r.getD i pd]:=(fi r i pd hi).symm;have hs:qM (r.take (i+1)):=List.Pairwise.sublist (by grind) h;rw[e] at hs;exact(List.pairwise_append.1 hs).2.2 q hq _ (by simp)
theorem Px {α:Type} r i (d:α)(hi:i<r.length):r=r.take i++r.getD i d::r.drop (i+1):=by
 simp_all
theorem vOq {r}(h:qM r){i}(hi:i<r.length):Pv r (r.getD i pd)= !(r.take i).any (jB (r.getD i pd).2.1):=by
 unfold Pv;have e:∀f,jB f (r.getD i pd)=true→r.filter (jB f)=(r.take i).filter (jB f)++r.getD i pd::(r.drop (i+1)).filter (jB f):=by
  intro f hf;have:=congrArg (List.filter (jB f)) (Px r i pd hi);grind
 have e:=e (r.getD i pd).2.1 (by simp[jB]);rw[e];cases ha:(r.take i).any (jB (r.getD i pd).2.1) with
 |false=>
  have:(r.take i).filter (jB (r.getD i pd).2.1)=[]:=by
   simp_all
  grind
 |true=>
  cases hf:(r.take i).filter (jB (r.getD i pd).2.1) with
  |nil=>
   rw[List.filter_eq_nil_iff] at hf;grind
  |cons q l=>
   have hq:q∈r.take i:=(List.mem_filter.1 (hf▸List.mem_cons_self ..:q∈(r.take i).filter _)).1;have:=h.split hi q hq;grind
theorem vTk {r}(h:qM r){i}(hi:i<r.length):
  sY r (r.getD i pd)=(!(r.take i).any (jB (r.getD i pd).2.1)||(decide ((r.getD i pd).2.2.2.2.1=3)&&qH (fun x=> !BK (r.getD i pd).2.1 (r.getD x pd)) r.length 0)):=by
 unfold sY;rw[vOq h hi]
 congr 1
 rw[Bool.eq_iff_iff,vKk,bc,Xy,aX];grind
theorem lookup_cons (f g:Int)(l:List (Int×Bool)):(List.lookup f ((g,true)::l)).getD false=(decide (f=g)||(List.lookup f l).getD false):=by
 rw[List.lookup_cons];by_cases c:f=g
 ·subst c;simp
 ·have:(f==g)=false:=by simpa using c
  rw[this];simp[c]
theorem yWu {k:Nat}{l:List zH}(hk:l.length<k)(hl:qT l)(hd:qM l)(t:Int):KJ k l t=some (vV l t):=by
 unfold KJ;rw[Xo hk hl];simp only[ae];unfold vV;have dQ:(l.filter (kh t)).length≤l.length:=List.length_filter_le _ _;have wy:=hd.filter (kh t);generalize l.filter (kh t)=r at dQ wy;unfold qT at hl;unfold Xz;obtain ⟨s', h1, h2, h3⟩ := yX (L := fun n i (s : List (Int × Bool) × List zH) => FJ k n r r.length i s.1 r s.2) (N := r.length) (fun s => (s.1, r, s.2)) (fun i s => (∀ f, (List.lookup f s.1).getD false = (r.take i).any (jB f)) ∧ s.2 = (r.take i).filter (sY r)) (fun n s _=>by
  show FK k _ r r.length r.length s.1 r s.2=_;unfold FK;simp only [qU, ab (Nat.lt_irrefl _), ak]) (fun n i s hi hs=>by
  refine⟨(((r.getD i pd).2.1,true)::s.1,bif sY r (r.getD i pd) then s.2++[r.getD i pd] else s.2),?_,?_,?_⟩
  ·show FK k _ r r.length i s.1 r s.2=_;unfold FK XA;have hlen:s.2.length≤i:=by
    rw[hs.2];have:=List.length_filter_le (sY r) (r.take i);rw[bQ] at this;omega
   have hc:=Xv (k:=k) (l:=r) (by omega) (by omega) (r.getD i pd).1 (r.getD i pd).2.1 (r.getD i pd).2.2.1 (r.getD i pd).2.2.2.1 (r.getD i pd).2.2.2.2.1 (r.getD i pd).2.2.2.2.2.1 (r.getD i pd).2.2.2.2.2.2;have uq:=hs.1 (r.getD i pd).2.1;have hp:=vTk wy hi;simp only[pd] at hc uq hp⊢;simp only[qC,qD hi (show r.length<9223372036854775808 by omega),qU,ao,aa hi,ag,ow (show s.2.length≤1000 by omega)];rw[hc,uq,hp];generalize (r.take i).any _=x;generalize qH _ _ 0=y;generalize decide ((r.getD i (0,(0,(0,(0,(0,(0,0))))))).2.2.2.2.1=3)=z;cases x<;>cases y<;>cases z<;>rfl
  ·intro f;rw[lookup_cons,hs.1 f,←fi r i pd hi,List.any_append,Bool.or_comm]
   congr 1
   simp only[List.any_cons,List.any_nil,Bool.or_false,jB];rw[Bool.eq_iff_iff];simp only[aX];exact eq_comm
  ·show(bif sY r (r.getD i pd) then s.2++[r.getD i pd] else s.2)=_;rw[hs.2,BJ _ _ _ pd hi];cases sY r (r.getD i pd)<;>simp) (s:=([],[])) (show r.length<k by omega) ⟨fun f=>by simp,by simp⟩
 have gD:FJ k k r r.length 0 [] r []=some (s'.1,r,s'.2):=h1;rw[gD,h3,List.take_length];rfl
def xF (p:Nat→Bool):Nat→Nat→Option Nat
 |0,_=>none
 |c+1,i=>bif p i then some i else xF p c (i+1)
def XB:Option Nat→Unit⊕Int
 |some x=>.inr (x:Int)
 |none=>.inl ()
theorem XE {L:Nat→Int→Option (Unit⊕Int)}{N:Nat} bad (bR:∀n,L (n+1) (N:Int)=some (.inl ()))
  (aL:∀n i,i<N→L (n+1) (i:Int)=bif bad i then some (.inr (i:Int)) else L n ((i+1:Nat):Int)):
  ∀c i n,i+c=N→c<n→L n (i:Int)=some (XB (xF bad c i))
 |0,i,n,h,hn=>by
  obtain⟨n,rfl⟩:∃m,n=m+1:=⟨n-1,by omega⟩;have:i=N:=by omega
  subst this;exact bR n
 |c+1,i,n,h,hn=>by
  obtain⟨n,rfl⟩:∃m,n=m+1:=⟨n-1,by omega⟩;rw[aL n i (by omega)];unfold xF;cases hb:bad i with
  |true=>rfl
  |false=>
   exact XE bad bR aL c (i+1) n (by omega) (by omega)
theorem yIi {p}:∀{c i x},xF p c i=some x→i≤x∧x<i+c∧p x=true∧∀j,i≤j→j<x→p j=false
 |c+1,i,x,h=>by
  unfold xF at h;cases hp:p i with
  |true=>
   grind
  |false=>
   rw[hp] at h;obtain⟨h1,h2,h3,h4⟩:=yIi h;grind
theorem yDb {p}:∀{c i},xF p c i=none→∀j,i≤j→j<i+c→p j=false
 |0,_,_=>by grind
 |c+1,i,h=>by
  unfold xF at h;cases hp:p i with
  |true=>
   simp_all
  |false=>
   rw[hp] at h;intro j j1 j2;by_cases e:j=i
   ·simp_all
   ·exact yDb h j (by omega) (by omega)
def vZ (l:List zH)(id:Int):Option Nat:=xF (fun x=>decide ((l.getD x pd).1=id)) l.length 0
def ki (l:List zH)(id:Int):Int:=match vZ l id with|some x=>(x:Int)|none=>-1
theorem kU {l id x}(h:vZ l id=some x):x<l.length∧(l.getD x pd).1=id:=by
 obtain⟨_,h2,h3,_⟩:=yIi h;simp_all
theorem vRd {l id}(h:vZ l id=none):∀p∈l,p.1≠id:=by
 intro p hp e;obtain⟨i,hi,e'⟩:=List.getElem_of_mem hp;have:=yDb h i (by omega) (by omega);simp_all
theorem Py {l p}(h:p∈l):∃x,vZ l p.1=some x:=by
 cases e:vZ l p.1 with
 |some x=>simp
 |none=>exact absurd rfl (vRd e p h)
theorem Pz {k}{l:List zH}(hk:l.length<k)(hl:l.length<9223372036854775808) id:nv k l id=some (ki l id):=by
 have := XE (L := fun n i => FL k n l id i) (N := l.length) (fun x => decide ((l.getD x pd).1 = id)) (fun n=>by
  show FM k _ l id l.length=_;unfold FM;simp) (fun n j hj=>by
  show FM k _ l id j=_;unfold FM;simp[qC,qD hj hl,aa hj]) l.length 0 k (by omega) hk
 have h1:FL k k l id 0=some (XB (vZ l id)):=this;unfold nv ki;rw[h1];cases vZ l id<;>rfl
theorem BL {k}{l:List zH}(hk:l.length<k)(hl:l.length<9223372036854775808) id:oz k l id=some (ki l id):=by
 have := XE (L := fun n i => FN k n l l.length i id) (N := l.length) (fun x => decide ((l.getD x pd).1 = id)) (fun n=>by
  show FO k _ l l.length l.length id=_;unfold FO;simp) (fun n j hj=>by
  show FO k _ l l.length j id=_;unfold FO XF;simp only[qC,qD hj hl,qU,aa hj];rfl) l.length 0 k (by omega) hk
 have h1:FN k k l l.length 0 id=some (XB (vZ l id)):=this;unfold oz XG ki;rw[h1];cases vZ l id<;>rfl
def yF (l:List zH)(x:Nat):List zH:=l.take x++l.drop (x+1)
theorem oC {l x}(h:x<l.length):(yF l x).length=l.length-1:=by
 unfold yF;grind
theorem uI l x:List.Sublist (yF l x) l:=by
 unfold yF
 conv=>rhs;rw[←List.take_append_drop x l]
 grind
theorem qM.cut {l}(h:qM l) x:qM (yF l x):=List.Pairwise.sublist (uI l x) h
theorem yPc k {l}{x:Nat}(hx:x<l.length)(hl:qT l):KK k l x ((x+1:Nat):Int)=some (yF l x):=by
 unfold KK;have c1:(decide ((0:Int)≤(x:Int)))=true:=by simp
 have c2:decide ((x:Int)≤((x+1:Nat):Int))=true:=aa (by omega);have c3:decide (((x+1:Nat):Int)≤(l.length:Int))=true:=aa (by omega);have c4:decide ((l.length:Int)≤(l.length:Int))=true:=by simp
 have c5:decide ((x:Int)=((x+1:Nat):Int))=false:=ab (by omega);have c6:decide ((x:Int)≤(l.length:Int))=true:=aa (by omega);have c7:decide ((0:Int)≤((x+1:Nat):Int))=true:=aa (by omega);have c8:Nat.ble (x-0) (0+(x+1))=true:=by simp
 simp only[ao,c1,c2,c3,c4,c5,c6,c7,c8,ak];have e0:x-0+(l.length-(x+1))=l.length-1:=by omega
 have e1:List.take (x-0) l++qR l (0+(x+1)) (l.length-(x+1))=yF l x:=by
  unfold qR yF;rw[Nat.sub_zero,Nat.zero_add]
  congr 1
  rw[List.take_of_length_le];rw[List.length_drop];exact Nat.le_refl _
 have e2:(qR (yF l x++List.drop (l.length-1) l) 0 (l.length-1))=yF l x:=by
  unfold qR;rw[List.drop_zero,List.take_append_of_le_length (by rw[oC hx];exact Nat.le_refl _),List.take_of_length_le (by rw[oC hx];exact Nat.le_refl _)]
 have e3:(yF l x++List.drop (l.length-1) l).length=l.length:=by
  rw[au,List.length_drop,oC hx];omega
 have c9:decide ((0:Int)≤((yF l x).length:Int))=true:=by simp
 have PA:decide (((yF l x).length:Int)≤(l.length:Int))=true:=by grind
 have BM:decide ((l.length:Int)≤((l.length-0:Nat):Int))=true:=by simp
 have e4:List.take (0+(yF l x).length) (yF l x++List.drop (l.length-1) l)=yF l x:=by
  rw[Nat.zero_add,List.take_append_of_le_length (Nat.le_refl _),List.take_of_length_le (Nat.le_refl _)]
 simp only[e0,e1,e2,e3,c9,PA,BM,e4,Bool.and_true,ag];rw[List.append_assoc,List.take_append_of_le_length (by rw[oC hx];exact Nat.le_refl _),List.take_of_length_le (by rw[oC hx];exact Nat.le_refl _)]
def iE (l:List zH)(id:Int):List zH×Int×Int×Int×Int×Int×Int×Int×Int:=match vZ l id with
 |some x=>(yF l x,(l.getD x pd).1,(l.getD x pd).2.1,(l.getD x pd).2.2.1,(l.getD x pd).2.2.2.1,(l.getD x pd).2.2.2.2.1,(l.getD x pd).2.2.2.2.2.1,(l.getD x pd).2.2.2.2.2.2,0)
 |none=>(l,0,0,0,0,0,0,0,4)
theorem BN {k l}(hk:l.length<k)(hl:qT l) id:qy k l id=some (iE l id):=by
 unfold qT at hl;unfold qy;rw[BL hk (by omega)];unfold ki iE;cases hp:vZ l id with
 |none=>rfl
 |some x=>
  have hx:=(kU hp).1;have e1:decide ((x:Int)<0)=false:=by simp
  have e2:xG k l=some l:=by
   unfold xG;rw[qI (by omega) (by omega)];rfl
  simp only[ae,e1,ak,e2,qD hx (by grind),yPc k hx hl,qC,aa hx,ag,ao]
def jL (q p:zH):Bool:=decide (q.2.1<p.2.1)||(decide (q.2.1=p.2.1)&&decide (q.2.2.2.2.1≤p.2.2.2.2.1))
def kj (q p:zH):Bool:=decide (q.2.1<p.2.1)||(decide (q.2.1=p.2.1)&&decide (q.2.2.2.2.1<p.2.2.2.2.1))
theorem XH n x y:PB (n+3) [x,y]=some (if x=0 then y else x):=by
 have key:∀n:Nat,KL (n+3) (n+3) 0 [x,y] 2 0=bif !decide (x=0) then some (.inr x) else bif !decide (y=0) then some (.inr y) else some (.inl 0):=fun n=>rfl
 unfold PB;grind
theorem vLu k a b:KM k a b=some (if a<b then-1 else if a>b then 1 else 0):=by
 unfold KM PD;grind
theorem XI {k}(hk:3≤k) q p:∃x,FP k q.1 q.2.1 q.2.2.1 q.2.2.2.1 q.2.2.2.2.1 q.2.2.2.2.2.1 q.2.2.2.2.2.2 p.1 p.2.1 p.2.2.1 p.2.2.2.1 p.2.2.2.2.1 p.2.2.2.2.2.1 p.2.2.2.2.2.2=some x∧decide (x≤0)=jL q p∧decide (x<0)=kj q p:=by
 obtain⟨n,rfl⟩:∃n,k=n+3:=⟨k-3,by omega⟩;unfold FP;simp only[vLu,XH];refine⟨_,rfl,?_,?_⟩
 ·unfold jL;grind
 ·unfold kj;grind
def KN (ok:Nat→Bool):Nat→Nat→Nat
 |0,i=>i
 |c+1,i=>bif ok i then KN ok c (i+1) else i
theorem FQ {X:Type}{L:Nat→Int→Option X}{N:Nat} ok (e:Nat→X)(bR:∀n,L (n+1) (N:Int)=some (e N))
  (aL:∀n i,i<N→L (n+1) (i:Int)=bif ok i then L n ((i+1:Nat):Int) else some (e i)):∀c i n,i+c=N→c<n→L n (i:Int)=some (e (KN ok c i))
 |0,i,n,h,hn=>by
  obtain⟨n,rfl⟩:∃m,n=m+1:=⟨n-1,by omega⟩;have:i=N:=by omega
  subst this;exact bR n
 |c+1,i,n,h,hn=>by
  obtain⟨n,rfl⟩:∃m,n=m+1:=⟨n-1,by omega⟩;rw[aL n i (by omega)];unfold KN;cases ok i with
  |false=>rfl
  |true=>exact FQ ok e bR aL c (i+1) n (by omega) (by omega)
theorem FR {α:Type} f (l:List α) d:∀c i,i+c=l.length→KN (fun x=>f (l.getD x d)) c i=i+((l.drop i).takeWhile f).length
 |0,i,h=>by
  rw[List.drop_eq_nil_of_le (by omega)];rfl
 |c+1,i,h=>by
  rw[List.drop_eq_getElem_cons (by grind)];unfold KN;have e:l.getD i d=l[i]:=by grind
  rw[e];cases hf:f l[i] with
  |false=>rw[List.takeWhile_cons_of_neg (by simp[hf])];rfl
  |true=>
   rw[List.takeWhile_cons_of_pos hf,ag,FR f l d c (i+1) (by omega),List.length_cons];omega
theorem oD {α:Type} f (l:List α):l.take (l.takeWhile f).length=l.takeWhile f∧l.drop (l.takeWhile f).length=l.dropWhile f:=by
 have e:=List.takeWhile_append_dropWhile (p:=f) (l:=l);grind
theorem BO {α:Type} f (l:List α):(l.takeWhile f).length≤l.length:=(List.takeWhile_sublist f).length_le
theorem XJ {α b} f l (p:α)(hl:l.length≤1000)(hb:b≤1000):ins b l (((l.takeWhile f).length:Nat):Int) [p]=some (l.takeWhile f++(p::l.dropWhile f)):=by
 unfold ins;have h:=BO f l;have hm:(l.length+1)*b≤1001*1000:=Nat.mul_le_mul (by omega) hb;rw[aa (by simp),aa (by grind),qI (by grind) (by omega),ao,(oD f l).1,(oD f l).2];rfl
def py (l:List zH)(p:zH):List zH:=l.takeWhile (fun q=>jL q p)++(p::l.dropWhile (fun q=>jL q p))
def KO (l:List zH)(p:zH):List zH:=l.takeWhile (fun q=>kj q p)++(p::l.dropWhile (fun q=>kj q p))
theorem yGx {k l}(hl:qT l):xG k l=some l:=by
 unfold qT at hl;unfold xG;rw[qI (by omega) (by omega)];rfl
theorem XK {k}(hk:3≤k) l (hl:qT l)(bS:l.length<k)(p:zH):KP k k l 0 p=some (l,(((l.takeWhile (fun q=>jL q p)).length:Nat):Int),p):=by
 unfold qT at hl;have := FQ (L := fun n i => KP k n l i p) (N := l.length) (fun x => jL (l.getD x pd) p) (fun i => (l, (i : Int), p)) (fun n=>by
  show FT k _ l l.length p=_;unfold FT;simp) (fun n i hi=>by
  show FT k _ l i p=_;unfold FT;obtain⟨x,h1,h2,_⟩:=XI hk (l.getD i pd) p;simp only[qC,qU,ao,aa hi,h1,ae,h2,qD hi (by grind)];rfl) l.length 0 k (by omega) bS
 have e:((0:Nat):Int)=0:=rfl;rw[e] at this;rw[this,FR (fun q=>jL q p) l pd l.length 0 (by omega),List.drop_zero,Nat.zero_add]
theorem XM {k l}(hk:3≤k)(bS:l.length<k)(hl:qT l)(p:zH):
  xH k l p=some (bif (vZ l p.1).isSome then(l,6) else bif decide (40≤l.length) then(l,3) else(py l p,0)):=by
 have dQ:=hl;unfold qT at hl;unfold xH;rw[BL bS (by omega)];unfold ki;cases hp:vZ l p.1 with
 |some x=>
  rfl
 |none=>
  by_cases h:40≤l.length
  ·grind
  ·rw[ab h,ab (by grind)];simp[XK hk l dQ bS,yGx dQ,PE];rw[XJ _ l p hl (by decide)];rfl
theorem XN {l x}(h:qT l):qT (yF l x):=by
 unfold qT at*
 have:=(uI l x).length_le;omega
def KQ (l:List zH)(id:Int):List zH:=match vZ l id with|some x=>yF l x|none=>l
theorem yI1 {l id}(hd:qM l):vZ (KQ l id) id=none:=by
 cases h:vZ (KQ l id) id with
 |none=>rfl
 |some y=>
  exfalso;obtain⟨h1,h2⟩:=kU h;unfold KQ at h h1 h2;cases hp:vZ l id with
  |none=>
   rw[hp] at h;rw[hp] at h;cases h
  |some x=>
   rw[hp] at h1 h2;obtain⟨h3,h4⟩:=kU hp;have hm:=fg (d:=pd) h1;have e:=Px l x pd h3;rw[e] at hd;have KR:=List.pairwise_append.1 hd;have XO:=List.pairwise_cons.1 KR.2.1;rcases List.mem_append.1 hm with hm|hm
   ·exact KR.2.2 _ hm _ (List.mem_cons_self ..) (h2.trans h4.symm)
   ·exact XO.1 _ hm (h4.trans h2.symm)
theorem vJ0 {k l}(hk:3≤k)(bS:l.length<k)(hl:qT l)(hd:qM l)(h40:l.length≤40){id x}(hx:vZ l id=some x) c:
  FU k l id c=some (py (yF l x) ((l.getD x pd).1,(l.getD x pd).2.1,(l.getD x pd).2.2.1,(l.getD x pd).2.2.2.1,c,(l.getD x pd).2.2.2.2.2.1,(l.getD x pd).2.2.2.2.2.2),0):=by
 have dt:=kU hx;have hw:=yI1 (id:=id) hd;unfold KQ at hw;have hlen:=oC dt.1;unfold FU;rw[BN bS hl];unfold iE;rw[hx];simp;rw[XM hk (by omega) (XN hl)];grind
theorem vS9 {k l}(hk:3≤k)(bS:l.length<k)(hl:qT l)(hd:qM l)(h40:l.length≤40){id x}(hx:vZ l id=some x):
  FV k l id=some (py (yF l x) (l.getD x pd),0):=by
 have dt:=kU hx;have hw:=yI1 (id:=id) hd;unfold KQ at hw;have hlen:=oC dt.1;unfold FV;rw[BN bS hl];unfold iE;rw[hx];simp;rw[XM hk (by omega) (XN hl)];grind
theorem vJu {k}(hk:3≤k) l (hl:qT l)(bS:l.length<k)(p:zH):KS k k 0 l p=some ((((l.takeWhile (fun q=>kj q p)).length:Nat):Int),l,p):=by
 unfold qT at hl;have := FQ (L := fun n i => KS k n i l p) (N := l.length) (fun x => kj (l.getD x pd) p) (fun i => ((i : Int), l, p)) (fun n=>by
  show FW k _ l.length l p=_;unfold FW;simp) (fun n i hi=>by
  show FW k _ i l p=_;unfold FW;obtain⟨x,h1,_,h2⟩:=XI hk (l.getD i pd) p;simp only[qC,qU,ao,aa hi,h1,ae,h2,qD hi (by grind)];rfl) l.length 0 k (by omega) bS
 have e:((0:Nat):Int)=0:=rfl;rw[e] at this;rw[this,FR (fun q=>kj q p) l pd l.length 0 (by omega),List.drop_zero,Nat.zero_add]
theorem vPv {k l}(hk:3≤k)(bS:l.length<k)(hl:qT l){id x}(hx:vZ l id=some x):
  FX k l id=some (KO (yF l x) (l.getD x pd),0):=by
 have dQ:=hl;unfold qT at hl;have dt:=kU hx;have hlen:=oC dt.1;have e1:decide ((x:Int)<0)=false:=by simp
 unfold FX XP;rw[BL bS (by omega)];unfold ki;rw[hx];simp only[ae,e1,ak,yGx dQ,qD dt.1 (by grind),yPc k dt.1 dQ,qC,aa dt.1,ag];rw[vJu hk (yF l x) (XN dQ) (by omega)];simp[PE];rw[XJ _ (yF l x) _ (by omega) (by decide)];rfl
def idx (l:AC)(id:Int):Nat:=(l.takeWhile (fun x=>decide (x<id))).length
theorem vO8 {x}(h0:0≤x)(h1:x<9223372036854775808):zA (shr .u64 (IntKind.wrap .u64 (zA x)) 1)=x/2:=by
 have e1:zA x=x:=zO (by omega) h1;have e2:IntKind.wrap .u64 x=x:=by
  unfold IntKind.wrap;simp[IntKind.bits];omega
 rw[e1,e2];have e3:shr .u64 x 1=x/2:=by
  have:(2:Int)^(min (1:Int).toNat (IntKind.bits .u64))=2:=by decide
  grind
 rw[e3];exact zO (by omega) (by omega)
theorem XQ k a b:PF k a b=some (decide (a<b)):=by
 unfold PF PG;simp
theorem XR {k l id}(hl:l.length≤1000){c:Nat}(hc:c≤l.length)(h1:∀x,x<c→l.getD x 0<id)(h2:∀x,c≤x→x<l.length→id≤l.getD x 0) s6:
  ∀n i j,i≤c→c≤j→j≤l.length→j-i<n→KT k n l id s6 i j=some (l,id,s6,(c:Int))
 |n+1,i,j,hi,hj,sr,hn=>by
  show PH k (KT k n) l id s6 i j=_;unfold PH;rw[qU];by_cases oS:i<j
  ·have hh:zA (shr .u64 (IntKind.wrap .u64 (zA ((i:Int)+(j:Int)))) 1)=(((i+j)/2:Nat):Int):=by
    rw[vO8 (by omega) (by omega)];omega
   have hm:(i+j)/2<l.length:=by omega
   rw[aa oS,ag,hh,qC,aa hm,ag,XQ];simp only[ae,ao];by_cases bn:(i+j)/2<c
   ·rw[aa (h1 _ bn),ag,qD hm (by omega)];exact XR hl hc h1 h2 s6 n _ j (by omega) hj sr (by omega)
   ·rw[ab (by grind),ak];exact XR hl hc h1 h2 s6 n i _ hi (by omega) (by omega) (by omega)
  grind
theorem vKl {k l id}(bS:l.length<k)(hl:l.length≤1000){c:Nat}(hc:c≤l.length)(h1:∀x,x<c→l.getD x 0<id)(h2:∀x,c≤x→x<l.length→id≤l.getD x 0):
  FY k l id=some ((c:Int),decide (c<l.length)&&decide (l.getD c 0=id)):=by
 unfold FY;have:=XR (k:=k) hl hc h1 h2 (l.length:Int) k 0 l.length (by omega) hc (by simp) (by omega);rw[show((0:Nat):Int)=0 from rfl] at this;rw[this];simp only[ae,qC,ao];by_cases h:c<l.length
 ·simp only[aa h];by_cases h3:l.getD c 0=id
  ·simp_all
  ·rw[ab h3];unfold PI;simp
 grind
def uJ (l:AC):Prop:=List.Pairwise (fun a b=>a<b) l
theorem yKj {l id}:∀x,x<idx l id→l.getD x 0<id:=by
 intro x hx;unfold idx at hx;have h:=oD (fun x=>decide (x<id)) l;have e:l.getD x 0=(l.takeWhile (fun x=>decide (x<id))).getD x 0:=by
  grind
 have hm:=fg (d:=(0:Int)) hx;have:=List.all_eq_true.1 (List.all_takeWhile (p:=fun x=>decide (x<id)) (l:=l)) _ hm;simp_all
theorem yVt {l}(ha:uJ l){id}:∀x,idx l id≤x→x<l.length→id≤l.getD x 0:=by
 intro x hx hl;have hi:idx l id<l.length:=by omega
 have h:=oD (fun x=>decide (x<id)) l;have h0:¬l.getD (idx l id) 0<id:=by
  have hd:l.drop (idx l id)=l[idx l id]::l.drop (idx l id+1):=by simp
  have h2:=h.2;unfold idx at hd;rw[h2] at hd;have bp:l.dropWhile (fun x=>decide (x<id))≠[]:=by rw[hd];simp
  have:=List.head_dropWhile_not (fun x=>decide (x<id)) bp;have e:(l.dropWhile (fun x=>decide (x<id))).head bp=l[idx l id]:=by
   unfold idx;simp_all
  simp_all
 by_cases e:x=idx l id
 ·rw[e];omega
 ·have:=List.pairwise_iff_getElem.1 ha (idx l id) x hi hl (by omega);grind
theorem vPp {l}(ha:uJ l) id:(decide (idx l id<l.length)&&decide (l.getD (idx l id) 0=id))=decide (id∈l):=by
 by_cases hm:id∈l
 ·obtain⟨x,hx,e⟩:=List.getElem_of_mem hm;have e':l.getD x 0=id:=by simp_all
  have h1:¬x<idx l id:=fun h=>by have:=yKj x h;omega
  have h3:idx l id<l.length:=by omega
  have h4:¬idx l id<x:=fun h=>by
   have g1:=yVt ha (id:=id) (idx l id) (by simp) h3;have g2:=List.pairwise_iff_getElem.1 ha (idx l id) x h3 hx h;grind
  grind
 grind
def qz (l:AC)(id:Int):AC:=l.takeWhile (fun x=>decide (x<id))++(id::l.dropWhile (fun x=>decide (x<id)))
theorem yF7 {k l}(bS:l.length<k)(hl:l.length≤1000)(ha:uJ l) id:FY k l id=some ((idx l id:Int),decide (id∈l)):=by
 rw[vKl bS hl (BO _ l) yKj (yVt ha)];show some ((idx l id:Int),decide (idx l id<l.length)&&decide (l.getD (idx l id) 0=id))=_;rw[vPp ha]
theorem vZz {k l}(bS:l.length<k)(hl:l.length≤1000)(ha:uJ l) id:PJ k l id=some (decide (id∈l)):=by
 unfold PJ;rw[yF7 bS hl ha];rfl
theorem XS {k l}(bS:l.length<k)(hl:l.length≤1000)(ha:uJ l) id:
  FZ k l id=some (bif decide (id∈l) then(l,6) else bif decide (200≤l.length) then(l,3) else(qz l id,0)):=by
 unfold FZ;rw[yF7 bS hl ha];by_cases hm:id∈l
 ·simp_all
 ·rw[ab hm];by_cases h:200≤l.length
  ·grind
  ·rw[ab h,ab (by grind)];have e2:qt k l=some l:=by
    unfold qt;rw[qI (by omega) (by omega)];rfl
   simp[e2,yNe];unfold idx;rw[XJ _ l id hl (by decide)];rfl
def iV (l:AC):Int:=zP (fun x=>x) l
def xI (x:Int):Bool:=decide (-9223372036854775808≤x)&&decide (x<9223372036854775808)
theorem yEr x:shr .i64 x 63=x/9223372036854775808:=by
 show x.fdiv (2^(min 63 64))=_;grind
theorem re x:IntKind.wrap .u64 x=x%18446744073709551616:=by
 rfl
theorem vKp {x}(h:0≤x∧x<18446744073709551616):zA x=if x<9223372036854775808 then x else x-18446744073709551616:=by
 unfold zA IntKind.wrap;simp[IntKind.bits,IntKind.signed];grind
theorem vUo (l:AC) i (hi:i<l.length):iV (l.take (i+1))=iV (l.take i)+l.getD i 0:=by
 have:l.take (i+1)=l.take i++[l.getD i 0]:=by
  simp_all
 unfold iV;rw[this,mq];simp[zP]
theorem yP7 {k l}(hk:l.length<k)(hl:l.length≤1000000)(hw:∀i,i<l.length→-9223372036854775808≤l.getD i 0∧l.getD i 0<9223372036854775808):
  F0 k l=some (bif xI (iV l) then(iV l,true) else(0,false)):=by
 obtain ⟨s', g1, g2, g3, g4⟩ := yX (L := fun n i (s : Int × Int) => F1 k n s.1 s.2 l (l.length : Int) i) (N := l.length) (fun s => (s.1, s.2)) (fun i s => (0 ≤ s.2 ∧ s.2 < 18446744073709551616) ∧ s.1 * 18446744073709551616 + s.2 = iV (l.take i) ∧ (-(i : Int) ≤ s.1 ∧ s.1 ≤ i)) (fun n s _=>by
  show F2 k _ s.1 s.2 l l.length l.length=_;unfold F2;simp only [qU, ab (Nat.lt_irrefl _), ak]) (fun n i s hi hs=>by
  obtain⟨h,lo⟩:=s;obtain⟨⟨h1,h2⟩,h3,h4⟩:=hs;simp only at h1 h2 h3 h4;show∃s',F2 k _ h lo l l.length i=_∧_;unfold F2 En;have hb:=hw i hi;have xJ:=vUo l i hi;obtain⟨v,hv⟩:∃v,l.getD i 0=v:=⟨_,rfl⟩;rw[hv] at hb xJ;simp only[qU,qC,ao,aa hi,ag,hv,re,yEr,decide_true,ae,qD hi (show l.length<9223372036854775808 by omega)];obtain⟨u,hu⟩:∃u,v%18446744073709551616=u:=⟨_,rfl⟩;rw[hu];obtain⟨q,hq⟩:∃q,v/9223372036854775808=q:=⟨_,rfl⟩;rw[hq];have si:u=v-q*18446744073709551616:=by omega
  have pz:q=0∨q= -1:=by omega
  obtain⟨a,ha⟩:∃a:Nat,lo.toNat+u.toNat+0=a:=⟨_,rfl⟩;rw[ha];have sd:(a:Int)=lo+u:=by omega
  obtain⟨c,hc⟩:∃c:Nat,a/18446744073709551616=c:=⟨_,rfl⟩;obtain⟨m,hm⟩:∃c:Nat,a%18446744073709551616=c:=⟨_,rfl⟩;rw[hc,hm];have hcm:a=c*18446744073709551616+m:=by omega
  have mh:m<18446744073709551616:=by omega
  have lV:c≤1:=by omega
  have e1:zA (Int.ofNat c)=(c:Int):=zO (by show(_:Int)≤((c:Nat):Int);omega) (by show((c:Nat):Int)<_;omega);have e2:zA (q+(c:Int))=q+c:=zO (by omega) (by omega);have e3:zA (h+(q+(c:Int)))=h+(q+c):=zO (by omega) (by omega);rw[e1,e2,e3];refine⟨(h+(q+c),(m:Int)),rfl,by grind,?_,?_⟩
  ·rw[xJ];show(h+(q+c))*18446744073709551616+(m:Int)=_;omega
  ·show-((i+1:Nat):Int)≤h+(q+c)∧h+(q+c)≤((i+1:Nat):Int);omega) (s:=(0,0)) hk ⟨⟨by show(0:Int)≤0;omega,by show(0:Int)<_;omega⟩,rfl,by show-((0:Nat):Int)≤0;omega,by show(0:Int)≤((0:Nat):Int);omega⟩
 have BP:F1 k k 0 0 l (l.length:Int) 0=some (s'.1,s'.2):=g1;rw[List.take_length] at g3;unfold F0;rw[BP];simp only[ae,yEr];rw[vKp g2];by_cases c:xI (iV l)=true
 ·have c':-9223372036854775808≤iV l∧iV l<9223372036854775808:=by simpa[xI] using c
  rw[c];by_cases d:s'.2<9223372036854775808
  ·rw[if_pos d,aa (show s'.1=s'.2/9223372036854775808 by omega)];simp only[aB,ak,ag];rw[show s'.2=iV l by omega]
  ·rw[if_neg d,aa (show s'.1=(s'.2-18446744073709551616)/9223372036854775808 by omega)];simp only[aB,ak,ag];rw[show s'.2-18446744073709551616=iV l by omega]
 ·have c':¬(-9223372036854775808≤iV l∧iV l<9223372036854775808):=by simpa[xI] using c
  rw[Bool.not_eq_true] at c;rw[c];by_cases d:s'.2<9223372036854775808
  ·rw[if_pos d,ab (show¬s'.1=s'.2/9223372036854775808 by omega)];rfl
  ·rw[if_neg d,ab (by grind)];rfl
theorem XT {x}(h:0≤x):yM .u64 x 4294967295=x%4294967296:=by
 obtain⟨n,rfl⟩:=Int.eq_ofNat_of_zero_le h;unfold yM tE;rw[re];have e1:(BitVec.ofInt IntKind.u64.bits (n:Int)&&&BitVec.ofInt IntKind.u64.bits 4294967295).toNat=n%4294967296:=by
  rw[BitVec.toNat_and,BitVec.toNat_ofInt,BitVec.toNat_ofInt];have e2:((4294967295:Int)%((2^IntKind.u64.bits:Nat):Int)).toNat=2^32-1:=by decide
  rw[e2,Nat.and_two_pow_sub_one_eq_mod];have e3:((n:Int)%((2^IntKind.u64.bits:Nat):Int)).toNat=n%18446744073709551616:=by
   rfl
  omega
 grind
theorem vG9 x:shr .u64 x 32=x/4294967296:=by
 show x.fdiv (2^(min 32 64))=_;grind
theorem vLq {a1 a0 b1 b0:Int}:(a1*4294967296+a0)*(b1*4294967296+b0)=a1*b1*18446744073709551616+(a1*b0+a0*b1)*4294967296+a0*b0:=by
 grind
theorem wM {a b A B:Int}(h0:0≤a)(h1:a≤A)(g0:0≤b)(g1:b≤B):0≤a*b∧a*b≤A*B:=
 ⟨Int.mul_nonneg h0 g0,Int.mul_le_mul h1 g1 g0 (by omega)⟩
theorem yRi (k:Nat){x y:Int}(hx:0≤x∧x<18446744073709551616)(hy:0≤y∧y<18446744073709551616):KU k x y=some (x*y/18446744073709551616,x*y%18446744073709551616):=by
 unfold KU;simp only[vG9,XT hx.1,XT hy.1,re];obtain⟨a1,h1⟩:∃a,x/4294967296=a:=⟨_,rfl⟩;obtain⟨a0,h0⟩:∃a,x%4294967296=a:=⟨_,rfl⟩;obtain⟨b1,g1⟩:∃a,y/4294967296=a:=⟨_,rfl⟩;obtain⟨b0,g0⟩:∃a,y%4294967296=a:=⟨_,rfl⟩;have hxe:x=a1*4294967296+a0:=by omega
 have hye:y=b1*4294967296+b0:=by omega
 rw[h1,h0,g1,g0];have BQ:0≤a1∧a1≤4294967295:=by omega
 have nQ:0≤a0∧a0≤4294967295:=by omega
 have fJ:0≤b1∧b1≤4294967295:=by omega
 have F3:0≤b0∧b0≤4294967295:=by omega
 have p11:=wM BQ.1 BQ.2 fJ.1 fJ.2;have ur:=wM BQ.1 BQ.2 F3.1 F3.2;have p01:=wM nQ.1 nQ.2 fJ.1 fJ.2;have p00:=wM nQ.1 nQ.2 F3.1 F3.2;have Pc:x*y=a1*b1*18446744073709551616+(a1*b0+a0*b1)*4294967296+a0*b0:=by rw[hxe,hye,vLq]
 rw[Pc];generalize a1*b1=u at*
 generalize a1*b0=v at*
 generalize a0*b1=s at*
 generalize a0*b0=t at*
 have c1:(t%18446744073709551616)=t:=by omega
 have c2:(v%18446744073709551616+t/4294967296)%18446744073709551616=v+t/4294967296:=by omega
 rw[c1,c2];have KV:yM .u64 (v+t/4294967296) 4294967295=(v+t/4294967296)%4294967296:=XT (by omega);rw[KV];refine congrArg some (Prod.ext ?_ ?_)
 ·show _%_=_/_;omega
 ·rfl
theorem vSl k {x}(hx:0≤x∧x<18446744073709551616):PK k 0 x 10000=some (x/10000,x%10000):=by
 unfold PK;have e1:decide ((10000:Int)=0)=false:=rfl;have e2:decide ((10000:Int)≤0)=false:=rfl;simp[re];grind
def uK (price many cut:Int):Int:=price*many*(10000-cut)/10000
theorem yD9 {p m c}(hp:0≤p∧p≤1048576)(hm:0≤m∧m≤1099511627776)(hc:0≤c∧c≤10000):0≤uK p m c∧uK p m c≤1152921504606846976:=by
 have h1:=wM hp.1 hp.2 hm.1 hm.2;have h2:=wM h1.1 h1.2 (by grind) (show 10000-c≤10000 by omega);unfold uK;omega
theorem vLg k {p m c}(hp:0≤p∧p≤1048576)(hm:0≤m∧m≤1099511627776)(hc:0≤c∧c≤10000):PM k p m c=some (uK p m c,true):=by
 unfold PM XU;have w1:zA (10000-c)=10000-c:=zO (by omega) (by omega);have e1:decide (p<0)=false:=ab (by omega);have e2:decide (m<0)=false:=ab (by omega);have e3:decide (c≥0)=true:=aa (by omega);have e4:decide (c≤10000)=true:=aa (by omega);have u1:p%18446744073709551616=p:=by omega
 have u2:m%18446744073709551616=m:=by omega
 have u3:(10000-c)%18446744073709551616=10000-c:=by omega
 have h1:=wM hp.1 hp.2 hm.1 hm.2;have hP:p*m/18446744073709551616=0:=by omega
 have hP2:p*m%18446744073709551616=p*m:=by omega
 have t0:Int.tmod 0 10000=0:=by simp
 have t1:Int.tdiv 0 10000=0:=by simp
 rw[e1,e2,e3,e4,ak,ak,ag,ae,aB,ak,re p,re m,u1,u2,yRi k (by grind) (by grind),ae,hP,hP2];dsimp only;rw[t0,t1,vSl k (by grind),ae];dsimp only;rw[w1,re (10000-c),u3];unfold uK;obtain⟨l,hl⟩:∃l,10000-c=l:=⟨_,rfl⟩;rw[hl];obtain⟨P,hPe⟩:∃P,p*m=P:=⟨_,rfl⟩;rw[hPe] at h1⊢;have dQ:0≤l∧l≤10000:=by omega
 rw[yRi k (by grind) (by grind)];have hq:=wM (show 0≤P/10000 by omega) (show P/10000≤115292150460684 by omega) dQ.1 dQ.2;have hr:=wM (show 0≤P%10000 by omega) (show P%10000≤9999 by omega) dQ.1 dQ.2;have BR:P*l=P/10000*l*10000+P%10000*l:=by
  grind
 rw[BR];generalize P/10000*l=a at*
 generalize P%10000*l=b at*
 have v1:a/18446744073709551616=0:=by omega
 have v2:a%18446744073709551616=a:=by omega
 have v3:b%18446744073709551616=b:=by omega
 have v4:Int.tdiv b 10000=b/10000:=Int.tdiv_eq_ediv_of_nonneg hr.1;have v5:b/10000%18446744073709551616=b/10000:=by omega
 have ha:En k a (b/10000) 0=some (a+b/10000,0):=by
  have n1:(Int.ofNat ((a.toNat+(b/10000).toNat+0)%18446744073709551616))=a+b/10000:=by rw[Int.ofNat_eq_natCast];omega
  have n2:(Int.ofNat ((a.toNat+(b/10000).toNat+0)/18446744073709551616))=0:=by rw[Int.ofNat_eq_natCast];omega
  unfold En;rw[aa rfl,ag,n1,n2]
 rw[ae];dsimp only;rw[v1,v2,re b,v3,v4,re (b/10000),v5,ha,ae];dsimp only;have z1:IntKind.wrap .u64 0=0:=by rw[re];omega
 have z2:IntKind.wrap .u64 (0+0)=0:=by rw[re];omega
 have z5:zA (a+b/10000)=a+b/10000:=zO (by omega) (by omega);grind
abbrev pA:=Int×Int
abbrev uL:pA:=(0,0)
def oE (sa:List pA)(pr h:AC)(i:Nat):Int:=uK (pr.getD i 0) (h.getD i 0) (sa.getD i uL).2
def mv (sa:List pA)(pr h:AC):Int:=qJ (oE sa pr h) sa.length
structure kV (sa:List pA) (pr h:AC):Prop where
 n3:sa.length≤3
 pl:pr.length=sa.length
 hl:h.length=sa.length
 cut:∀i,i<sa.length→0≤(sa.getD i uL).2∧(sa.getD i uL).2≤10000
 price:∀i,i<sa.length→0≤pr.getD i 0∧pr.getD i 0≤1048576
 hold:∀i,i<sa.length→0≤h.getD i 0∧h.getD i 0≤1099511627776
theorem KW {sa pr h}(L:kV sa pr h){i}(hi:i<sa.length):0≤oE sa pr h i∧oE sa pr h i≤1152921504606846976:=yD9 (L.price i hi) (L.hold i hi) (L.cut i hi)
theorem XV g:∀n,iV ((List.range n).map g)=qJ g n
 |0=>rfl
 |n+1=>by
  rw[List.range_succ,List.map_append];unfold iV;rw[mq];have:=XV g n;unfold iV at this;rw[this];show qJ g n+(g n+0)=qJ g n+g n;omega
theorem PN {g A}:∀{n},(∀j,j<n→0≤g j∧g j≤A)→0≤qJ g n∧qJ g n≤n*A
 |0,_=>by simp[qJ]
 |n+1,h=>by
  have h1:=PN (n:=n) (fun j hj=>h j (by omega));have h2:=h n (by omega);have h3:((n+1:Nat):Int)*A=n*A+A:=by grind
  show 0≤qJ g n+g n∧qJ g n+g n≤_;omega
theorem XW {k:Nat}{sa:List pA}{pr h:AC}(L:kV sa pr h)(hk:10≤k):F4 k k pr h sa sa.length 0 []=some (.inl ((List.range sa.length).map (oE sa pr h))):=by
 have hn:=L.n3;obtain ⟨s', h1, h2⟩ := yX (L := fun n i (s : AC) => F4 k n pr h sa sa.length i s) (N := sa.length) (fun s => .inl s) (fun i s => s = (List.range i).map (oE sa pr h)) (fun n s _=>by
  show F5 k _ pr h sa sa.length sa.length s=_;unfold F5;simp only [qU, ab (Nat.lt_irrefl _), ak]) (fun n i s hi hs=>by
  refine⟨s++[oE sa pr h i],?_,?_⟩
  ·show F5 k _ pr h sa sa.length i s=_;unfold F5;have fa:s.length≤3:=by rw[hs,List.length_map,List.length_range];omega
   have hw:=vLg k (L.price i hi) (L.hold i hi) (L.cut i hi);simp only[qU,qC,ao,aa hi,aa (show i<pr.length by rw[L.pl];exact hi),aa (show i<h.length by rw[L.hl];exact hi),ag,qD hi (show sa.length<9223372036854775808 by omega)];rw[hw];simp only[ae,aB,ak,qI (show(s.length+1)*8≤140737488355328 by omega) (show s.length+1≤140737488355328 by omega),ag];rfl
  ·rw[hs,List.range_succ,List.map_append];rfl) (s:=[]) (show sa.length<k by omega) rfl
 have gD:F4 k k pr h sa sa.length 0 []=_:=h1;rw[gD,h2]
theorem XX {k sa pr h}(L:kV sa pr h)(hk:10≤k):sZ k sa pr h=some (mv sa pr h,true):=by
 have hn:=L.n3;have hb:=PN (g:=oE sa pr h) (n:=sa.length) (fun j hj=>KW L hj);unfold sZ;have e1:decide ((pr.length:Int)=(sa.length:Int))=true:=aa (by rw[L.pl]);have e2:decide ((h.length:Int)=(sa.length:Int))=true:=aa (by rw[L.hl]);simp[e1,e2];rw[XW L hk];simp;rw [yP7 (by grind) (by grind) (fun i hi=>by
  rw[List.length_map,List.length_range] at hi;have:=KW L hi;grind)]
 rw[XV];have e3:xI (qJ (oE sa pr h) sa.length)=true:=by
  unfold xI;grind
 rw[e3];rfl
theorem F6 {sa pr h}(L:kV sa pr h):0≤mv sa pr h:=(PN (g:=oE sa pr h) (n:=sa.length) (fun j hj=>KW L hj)).1
theorem yUv {k l}(hl:l.length≤1000){i}(h0:0≤i)(h1:i<l.length) v:rf k l i v=some (l.set i.toNat v):=by
 unfold rf;have e2:qt k l=some l:=by
  unfold qt;rw[qI (by omega) (by omega)];rfl
 simp[e2,aa (show i≥0 by omega),aa h1,ag,wV h0 h1]
theorem PO {a b m p l r}(hb:wN a b m p)(h:sV a b m p l r):
  qJ (fun i=>(r.1.getD i ad).1) a.length=qJ (fun i=>(a.getD i ad).1) a.length∧wN r.1 r.2.1 r.2.2.1 r.2.2.2.1∧(r.2.2.2.2=0∨(r.1=a∧r.2.1=b∧r.2.2.1=m∧r.2.2.2.1=p)):=by
 by_cases c:wK a.length l
 ·obtain⟨a',p',x,e⟩:=h.1 c;cases hi:nu a' b m p' with
  |false=>
   simp_all
  |true=>
   rw[hi] at e;subst e;refine⟨?_,OZ.1 hi,.inl rfl⟩;have e1:qJ (fun i=>(a'.getD i ad).1) a.length=qJ (fun i=>(a.getD i ad).1+zP (gB i) l) a.length:=sR fun j hj=>by rw[x.acct j hj]
   show qJ (fun i=>(a'.getD i ad).1) a.length=_;rw[e1,Er,Oz];have e2:zP (fun p=>qJ (fun j=>gB j p) a.length) l=zP (fun _=>(0:Int)) l:=Oy fun p hp=>by
    obtain⟨f0,f1,t0,t1,ne,a1,a2,c1,c3⟩:=c.1 p hp;obtain⟨f,hf⟩:∃f:Nat,p.2.1=f:=⟨p.2.1.toNat,by omega⟩;obtain⟨t,ht⟩:∃t:Nat,p.2.2.1=t:=⟨p.2.2.1.toNat,by omega⟩;have g1:∀j,gB j p=(if j=t then p.2.2.2.1 else 0)+(if j=f then-p.2.2.2.1 else 0):=by
     unfold gB;omega
    rw[sR fun j _=>g1 j,Er,Bq,Bq,if_pos (by omega),if_pos (by omega)];omega
   have e3:∀l:List zH,zP (fun _:zH=>(0:Int)) l=0:=by
    intro l
    induction l with
    |nil=>rfl
    |cons p l ih=>show 0+zP _ l=0;omega
   simp_all
 ·have e:=h.2 c;simp_all
abbrev BT:=List yA×EQ×AC×EQ
def qP (B:BT):Prop:=wN B.1 B.2.1 B.2.2.1 B.2.2.2
theorem F7 {k}(hk:100<k){B}(h:qP B){l:List zH}(hl:l.length≤80):
  ∃r,qx k B.1 B.2.1 B.2.2.1 B.2.2.2 l=some r∧BC k B.1 B.2.1 B.2.2.1 B.2.2.2 l=some r∧sV B.1 B.2.1 B.2.2.1 B.2.2.2 l r:=by
 obtain⟨r,h1,h2⟩:=Pd hk h hl;obtain⟨r',h3,h4⟩:=vTg hk h hl;have:=h2.same h4;simp_all
def xK (B:BT)(l:List zH):Bool:=xE B.1 B.2.1 B.2.2.1 B.2.2.2 l
def iF (k:Nat)(B:BT)(l:List zH):Option BT:=match qx k B.1 B.2.1 B.2.2.1 B.2.2.2 l with
 |some r=>bif decide (r.2.2.2.2=0)&&xK B l then some (r.1,r.2.1,r.2.2.1,r.2.2.2.1) else none
 |none=>none
theorem ta {k}(hk:100<k){B C}(h:qP B){l}(hl:l.length≤80)(hg:iF k B l=some C):qP C∧C.1.length=B.1.length:=by
 obtain⟨r,h1,h2,h3⟩:=F7 hk h hl;unfold iF at hg;rw[h1] at hg;simp only at hg;cases hc:decide (r.2.2.2.2=0)&&xK B l with
 |false=>
  simp_all
 |true=>
  rw[hc] at hg;simp  at hg;subst hg;refine⟨(PO h h3).2.1,?_⟩;by_cases c:wK B.1.length l
  ·obtain⟨a',p',x,e⟩:=h3.1 c;cases hi:nu a' B.2.1 B.2.2.1 p' with
   |false=>simp_all
   |true=>rw[hi] at e;subst e;exact x.al
  ·rw[h3.2 c]
def eE (k:Nat)(B:BT):List zH→Option (zH×BT)
 |[]=>none
 |p::l=>match iF k B [p] with
  |some C=>some (p,C)
  |none=>eE k B l
theorem BS {k B C p}:∀{l},eE k B l=some (p,C)→p∈l∧iF k B [p]=some C
 |q::l,h=>by
  unfold eE at h;cases hg:iF k B [q] with
  |some D=>
   simp_all
  |none=>
   rw[hg] at h;have:=BS h;simp_all
theorem yRa k B {m:List zH}{i}(hi:i<m.length):eE k B (m.drop i)=match iF k B [m.getD i pd] with
  |some C=>some (m.getD i pd,C)
  |none=>eE k B (m.drop (i+1)):=by
 rw[List.drop_eq_getElem_cons hi];have e:m.getD i pd=m[i]:=by simp_all
 rw[e];rfl
theorem PQ l t:(vV l t).length≤l.length:=Nat.le_trans (List.length_filter_le _ _) (by grind)
theorem vHn m i (hi:i<m.length):qR m (0+i) (i+1-i)=[m.getD i pd]:=by
 unfold qR;rw[Nat.zero_add,show i+1-i=1 by omega,List.drop_eq_getElem_cons hi,bL,List.getElem?_eq_getElem hi];rfl
def fx (l:List zH)(id:Int):List zH:=(iE l id).1
theorem uM {l p}(h:p∈l):(fx l p.1).length+1=l.length∧List.Sublist (fx l p.1) l:=by
 obtain⟨x,hx⟩:=Py h;unfold fx iE;rw[hx];have:=(kU hx).1;refine⟨?_,uI l x⟩;rw[oC this];omega
theorem F8 {l t p}(h:p∈vV l t):p∈l:=(List.mem_filter.1 (List.mem_filter.1 h).1).1
inductive hZ (k:Nat) (t:Int):BT→List zH→List zH→BT→List zH→Prop
 |stop {B:BT} {l:List zH} (h:eE k B (vV l t)=none):hZ k t B l [] B l
 |step {B C D:BT} {l m done:List zH} {p:zH} (h:eE k B (vV l t)=some (p,C)) (h':hZ k t C (fx l p.1) done D m):hZ k t B l (p::done) D m
theorem yGz {k}(hk:100<k){B}(h:qP B){l:List zH}(hl:l.length≤80):BI k B.1 B.2.1 B.2.2.1 B.2.2.2 l=some (xK B l):=vY5 hk h hl
theorem yW2 {k}(hk:100<k){B}(h:qP B)(m:List zH)(hm:m.length≤1000):∀c i n,i+c=m.length→c<n→
  KX k n m.length i B.1 B.2.1 B.2.2.1 B.2.2.2 0 0 0 0 0 0 0 m = some (match eE k B (m.drop i) with
   |some (p,C)=>.inr (true,p.1,p.2.1,p.2.2.1,p.2.2.2.1,p.2.2.2.2.1,p.2.2.2.2.2.1,p.2.2.2.2.2.2,C.1,C.2.1,C.2.2.1,C.2.2.2)
   |none=>.inl (B.1,B.2.1,B.2.2.1,B.2.2.2,0,0,0,0,0,0,0))
 |0,i,n,e,hn=>by
  obtain⟨n,rfl⟩:∃x,n=x+1:=⟨n-1,by omega⟩;have:i=m.length:=by omega
  subst this;show F9 k _ m.length m.length B.1 B.2.1 B.2.2.1 B.2.2.2 0 0 0 0 0 0 0 m=_;unfold F9;simp;rfl
 |c+1,i,n,e,hn=>by
  obtain⟨n,rfl⟩:∃x,n=x+1:=⟨n-1,by omega⟩;have hi:i<m.length:=by omega
  have ih:=yW2 hk h m hm c (i+1) n (by omega) (by omega);show F9 k _ m.length i B.1 B.2.1 B.2.2.1 B.2.2.2 0 0 0 0 0 0 0 m=_;unfold F9;obtain⟨r,h1,h2,h3⟩:=F7 hk h (l:=[m.getD i pd]) (by simp);have hf:=yGz hk h (l:=[m.getD i pd]) (by simp);simp[qC,qD hi (by grind)];rw[yRa k B hi];unfold iF;grind
def vGg (B:BT)(x:Option (zH×BT)):Int×Int×Int×Int×Int×Int×Int×(List (Int×Int×Int))×EQ×AC×EQ×Bool:=match x with
 |some (p,C)=>(p.1,p.2.1,p.2.2.1,p.2.2.2.1,p.2.2.2.2.1,p.2.2.2.2.2.1,p.2.2.2.2.2.2,C.1,C.2.1,C.2.2.1,C.2.2.2,true)
 |none=>(0,0,0,0,0,0,0,B.1,B.2.1,B.2.2.1,B.2.2.2,false)
theorem XY {k}(hk:100<k){B}(h:qP B){l}(bS:l.length<k)(hl:qT l)(hd:qM l) t:PR k B.1 B.2.1 B.2.2.1 B.2.2.2 l t=some (vGg B (eE k B (vV l t))):=by
 unfold PR;rw[yWu bS hl hd];have Ga:=PQ l t;unfold qT at hl;have:=yW2 hk h (vV l t) (by omega) (vV l t).length 0 k (by omega) (by omega);have e:((0:Nat):Int)=0:=rfl;rw[e,List.drop_zero] at this;simp;rw[this];cases eE k B (vV l t) with
 |none=>rfl
 |some x=>rfl
theorem yVs {k}(hk:100<k) t:∀n B (l r:List zH),qP B→qM l→l.length≤100→l.length<n→r.length+l.length≤1000→
  ∃(C:BT) (m done:List zH),KY k n t l B.1 B.2.1 B.2.2.1 B.2.2.2 r=some (m,C.1,C.2.1,C.2.2.1,C.2.2.2,r++done)∧hZ k t B l done C m∧qP C∧C.1.length=B.1.length∧List.Sublist m l
 |n+1,B,l,r,hb,hd,hl,hn,hr=>by
  have h1:=XY hk hb (l:=l) (by omega) (by show l.length≤1000;omega) hd t;cases hx:eE k B (vV l t) with
  |none=>
   rw[hx] at h1;refine⟨B,l,[],?_,.stop hx,hb,rfl,by simp⟩;show Gc k _ t l B.1 B.2.1 B.2.2.1 B.2.2.2 r=_;unfold Gc;rw[h1];simp only[ae,vGg,bG,ag,List.append_nil]
  |some x=>
   obtain⟨p,C⟩:=x;rw[hx] at h1;obtain⟨hp,hg⟩:=BS hx;have DR:=F8 hp;obtain⟨tQ,ng⟩:=uM DR;obtain⟨oe,cQ⟩:=ta hk hb (by simp) hg;obtain⟨D,m,done,g1,g3,g4,g5,g6⟩:=yVs hk t n C (fx l p.1) (r++[p]) oe (List.Pairwise.sublist ng hd) (by omega) (by omega) (by grind);refine⟨D,m,p::done,?_,.step hx g3,g4,by grind,g6.trans ng⟩;show Gc k _ t l B.1 B.2.1 B.2.2.1 B.2.2.2 r=_;unfold Gc;rw[h1];simp[BN (show l.length<k by omega) (show qT l by show l.length≤1000;omega),ow (show r.length≤1000 by omega)];rw[List.append_cons r p done,←g1];rfl
theorem vYl {k}(hk:200≤k){B}(hb:qP B){l}(hd:qM l)(hl:l.length≤100) t:
  ∃(C:BT) (m done:List zH),PT k B.1 B.2.1 B.2.2.1 B.2.2.2 l t=some (C.1,C.2.1,C.2.2.1,C.2.2.2,m,done)∧hZ k t B l done C m∧qP C∧C.1.length=B.1.length∧List.Sublist m l:=by
 obtain⟨C,m,done,h1,h3⟩:=yVs (show 100<k by omega) t k B l [] hb hd hl (by omega) (by grind);refine⟨C,m,done,?_,h3⟩;unfold PT;simp_all
def rj (p q:zH):Bool:=decide (q.2.1=p.2.2.1)&&(decide (q.2.2.1=p.2.1)&& !decide (p.2.1≥q.2.1))
def pB (k:Nat)(B:BT)(p:zH):List zH→Option (zH×BT)
 |[]=>none
 |q::l=>match(bif rj p q then iF k B [p,q] else none) with
  |some C=>some (q,C)
  |none=>pB k B p l
def tc (k:Nat)(B:BT)(m:List zH):List zH→Option (zH×zH×BT)
 |[]=>none
 |p::l=>match pB k B p m with
  |some (q,C)=>some (p,q,C)
  |none=>tc k B m l
theorem XZ {k B C p q}:∀{l},pB k B p l=some (q,C)→q∈l∧rj p q=true∧iF k B [p,q]=some C
 |r::l,h=>by
  unfold pB at h;cases hd:rj p r with
  |false=>
   rw[hd] at h;have:=XZ (l:=l) h;simp_all
  |true=>
   rw[hd] at h;cases hg:iF k B [p,r] with
   |some D=>
    simp_all
   |none=>
    rw[hg] at h;have:=XZ (l:=l) h;simp_all
theorem PU {k B C p q m}:∀{l},tc k B m l=some (p,q,C)→p∈l∧q∈m∧rj p q=true∧iF k B [p,q]=some C
 |r::l,h=>by
  unfold tc at h;cases hq:pB k B r m with
  |some x=>
   rw[hq] at h;cases h;exact⟨by simp,XZ hq⟩
  |none=>
   rw[hq] at h;have:=PU (l:=l) h;simp_all
theorem vEe {α:Type}{l:List α}{i} h d:l.getD i d=l[i]:=by
 simp_all
theorem vE8 k B p {m:List zH}{i}(hi:i<m.length):pB k B p (m.drop i)=match(bif rj p (m.getD i pd) then iF k B [p,m.getD i pd] else none) with
  |some C=>some (m.getD i pd,C)
  |none=>pB k B p (m.drop (i+1)):=by
 rw[List.drop_eq_getElem_cons hi,vEe hi];rfl
theorem yIj k B r {m:List zH}{i}(hi:i<m.length):tc k B r (m.drop i)=match pB k B (m.getD i pd) r with
  |some (q,C)=>some (m.getD i pd,q,C)
  |none=>tc k B r (m.drop (i+1)):=by
 rw[List.drop_eq_getElem_cons hi,vEe hi];rfl
def fZ (k:Nat)(B:BT)(l:List zH)(t:Int):Option (zH×zH×BT):=tc k B (vV l t) (vV l t)
theorem X0 {l x q}(hx:x<l.length)(h:q∈l)(bp:q≠l.getD x pd):q∈yF l x:=by
 unfold yF;have e:=Px l x pd hx;grind
theorem qM.eq_of {l}(h:qM l){p q}(hp:p∈l)(hq:q∈l)(e:p.1=q.1):p=q:=by
 obtain⟨i,hi,ei⟩:=List.getElem_of_mem hp;obtain⟨j,hj,ej⟩:=List.getElem_of_mem hq;have hl:=List.pairwise_iff_getElem.1 h;grind
theorem X1 {l p q}(hp:p∈l)(hq:q∈l)(bp:q.1≠p.1):q∈fx l p.1:=by
 obtain⟨x,hx⟩:=Py hp;unfold fx iE;rw[hx];have:=kU hx;exact X0 this.1 hq (by grind)
def BU (l:List zH)(p q:zH):List zH:=fx (fx l p.1) q.1
theorem Gd {k B C l t p q}(h:fZ k B l t=some (p,q,C)):p∈l∧q∈l∧rj p q=true∧iF k B [p,q]=some C:=by
 obtain⟨h1,h2,h3⟩:=PU h;exact⟨F8 h1,F8 h2,h3⟩
theorem vF7 {l}(hd:qM l){p q}(hp:p∈l)(hq:q∈l)(h:rj p q=true):q.1≠p.1:=by
 intro e;have:=hd.eq_of hq hp e;subst this;unfold rj at h;simp at h
theorem Ge {l}(hd:qM l){p q}(hp:p∈l)(hq:q∈l)(h:rj p q=true):(BU l p q).length+2=l.length∧List.Sublist (BU l p q) l:=by
 obtain⟨h1,h2⟩:=uM hp;obtain⟨h3,h4⟩:=uM (X1 hp hq (vF7 hd hp hq h));unfold BU;exact⟨by omega,h4.trans h2⟩
inductive jZ (k:Nat) (t:Int):BT→List zH→List zH→BT→List zH→Prop
 |stop {B:BT} {l:List zH} (h:fZ k B l t=none):jZ k t B l [] B l
 |step {B C D:BT} {l m done:List zH} {p q:zH} (h:fZ k B l t=some (p,q,C)) (h':jZ k t C (BU l p q) done D m):jZ k t B l (p::q::done) D m
theorem jZ.length {k t B C l done m}(h:jZ k t B l done C m)(hd:qM l):done.length+m.length=l.length∧done.length%2=0:=by
 induction h with
 |stop _=>simp
 |step h _ ih=>
  obtain⟨hp,hq,pC,_⟩:=Gd h;obtain⟨h1,h2⟩:=Ge hd hp hq pC;have:=ih (List.Pairwise.sublist h2 hd);grind
theorem jZ.sub {k t B C l done m}(h:jZ k t B l done C m)(hd:qM l):List.Sublist m l:=by
 induction h with
 |stop _=>simp
 |step h _ ih=>
  obtain⟨hp,hq,pC,_⟩:=Gd h;obtain⟨h1,h2⟩:=Ge hd hp hq pC;exact(ih (List.Pairwise.sublist h2 hd)).trans h2
theorem vAv {k}(hk:100<k){B}(h:qP B)(m:List zH)(hm:m.length≤1000) p dM cO:∀c i n,i+c=m.length→c<n→
  KZ k n dM cO m.length i B.1 B.2.1 B.2.2.1 B.2.2.2 0 0 0 0 0 0 0 0 0 0 0 0 0 0 m p.1 p.2.1 p.2.2.1 p.2.2.2.1 p.2.2.2.2.1 p.2.2.2.2.2.1 p.2.2.2.2.2.2 = some (match pB k B p (m.drop i) with
   |some (q,C)=>.inr (true,p.1,p.2.1,p.2.2.1,p.2.2.2.1,p.2.2.2.2.1,p.2.2.2.2.2.1,p.2.2.2.2.2.2,q.1,q.2.1,q.2.2.1,q.2.2.2.1,q.2.2.2.2.1,q.2.2.2.2.2.1,q.2.2.2.2.2.2,C.1,C.2.1,C.2.2.1,C.2.2.2)
   |none=>.inl (dM,cO,B.1,B.2.1,B.2.2.1,B.2.2.2,0,0,0,0,0,0,0,0,0,0,0,0,0,0,m))
 |0,i,n,e,hn=>by
  obtain⟨n,rfl⟩:∃x,n=x+1:=⟨n-1,by omega⟩;have:i=m.length:=by omega
  subst this;show Gf k _ dM cO m.length m.length B.1 B.2.1 B.2.2.1 B.2.2.2 0 0 0 0 0 0 0 0 0 0 0 0 0 0 m p.1 p.2.1 p.2.2.1 p.2.2.2.1 p.2.2.2.2.1 p.2.2.2.2.2.1 p.2.2.2.2.2.2=_;unfold Gf;simp;rfl
 |c+1,i,n,e,hn=>by
  obtain⟨n,rfl⟩:∃x,n=x+1:=⟨n-1,by omega⟩;have hi:i<m.length:=by omega
  have ih:=vAv hk h m hm p dM cO c (i+1) n (by omega) (by omega);show Gf k _ dM cO m.length i B.1 B.2.1 B.2.2.1 B.2.2.2 0 0 0 0 0 0 0 0 0 0 0 0 0 0 m p.1 p.2.1 p.2.2.1 p.2.2.2.1 p.2.2.2.2.1 p.2.2.2.2.2.1 p.2.2.2.2.2.2=_;unfold Gf;obtain⟨r,h1,h2,h3⟩:=F7 hk h (l:=[p,m.getD i pd]) (by simp);have hf:=yGz hk h (l:=[p,m.getD i pd]) (by simp);have gD:qx k B.1 B.2.1 B.2.2.1 B.2.2.2 [(p.1,p.2.1,p.2.2.1,p.2.2.2.1,p.2.2.2.2.1,p.2.2.2.2.2.1,p.2.2.2.2.2.2),m.getD i (0,(0,(0,(0,(0,(0,0))))))]=some r:=h1;have eF:BI k B.1 B.2.1 B.2.2.1 B.2.2.2 [(p.1,p.2.1,p.2.2.1,p.2.2.2.1,p.2.2.2.2.1,p.2.2.2.2.2.1,p.2.2.2.2.2.2),m.getD i (0,(0,(0,(0,(0,(0,0))))))]=some (xK B [p,m.getD i pd]):=hf;simp only[qC,qD hi (by grind),qU,ao,aa hi];rw[vE8 k B p hi];unfold rj;cases decide ((m.getD i pd).2.1=p.2.2.1) with
  |false=>exact ih
  |true=>
   cases decide ((m.getD i pd).2.2.1=p.2.1) with
   |false=>exact ih
   |true=>
    cases decide (p.2.1≥(m.getD i pd).2.1) with
    |true=>exact ih
    |false=>
     unfold iF;grind
theorem yLj {k}(hk:100<k){B}(h:qP B)(m:List zH)(hm:m.length≤1000)(K0:m.length<k):∀c i n,i+c=m.length→c<n→
  K1 k n m.length i B.1 B.2.1 B.2.2.1 B.2.2.2 0 0 0 0 0 0 0 0 0 0 0 0 0 0 m = some (match tc k B m (m.drop i) with
   |some (p,q,C)=>.inr (true,p.1,p.2.1,p.2.2.1,p.2.2.2.1,p.2.2.2.2.1,p.2.2.2.2.2.1,p.2.2.2.2.2.2,q.1,q.2.1,q.2.2.1,q.2.2.2.1,q.2.2.2.2.1,q.2.2.2.2.2.1,q.2.2.2.2.2.2,C.1,C.2.1,C.2.2.1,C.2.2.2)
   |none=>.inl (0,0,0,0,0,0,0,0,0,0,0,0,0,0))
 |0,i,n,e,hn=>by
  obtain⟨n,rfl⟩:∃x,n=x+1:=⟨n-1,by omega⟩;have:i=m.length:=by omega
  subst this;show Gg k _ m.length m.length B.1 B.2.1 B.2.2.1 B.2.2.2 0 0 0 0 0 0 0 0 0 0 0 0 0 0 m=_;unfold Gg;simp;rfl
 |c+1,i,n,e,hn=>by
  obtain⟨n,rfl⟩:∃x,n=x+1:=⟨n-1,by omega⟩;have hi:i<m.length:=by omega
  have ih:=yLj hk h m hm K0 c (i+1) n (by omega) (by omega);show Gg k _ m.length i B.1 B.2.1 B.2.2.1 B.2.2.2 0 0 0 0 0 0 0 0 0 0 0 0 0 0 m=_;unfold Gg;have fK:=vAv hk h m hm (m.getD i pd) m.length i m.length 0 k (by omega) K0;have e0:((0:Nat):Int)=0:=rfl;rw[e0,List.drop_zero] at fK;simp only[qC,qU,ao,aa hi];rw[fK];rw[yIj k B m hi];cases pB k B (m.getD i (0,(0,(0,(0,(0,(0,0))))))) m with
  |none=>
   simp[qD hi (by grind)];exact ih
  |some x=>rfl
def X2 (x:Option (zH×zH×BT)):Int×Int×Int×Int×Int×Int×Int×Int×Int×Int×Int×Int×Int×Int×(List (Int×Int×Int))×EQ×AC×EQ×Bool:=match x with
 |some (p,q,C)=>(p.1,p.2.1,p.2.2.1,p.2.2.2.1,p.2.2.2.2.1,p.2.2.2.2.2.1,p.2.2.2.2.2.2,q.1,q.2.1,q.2.2.1,q.2.2.2.1,q.2.2.2.2.1,q.2.2.2.2.2.1,q.2.2.2.2.2.2,C.1,C.2.1,C.2.2.1,C.2.2.2,true)
 |none=>(0,0,0,0,0,0,0,0,0,0,0,0,0,0,[],[],[],[],false)
theorem vTo {k}(hk:100<k){B}(h:qP B){l}(bS:l.length<k)(hl:qT l)(hd:qM l) t:PV k B.1 B.2.1 B.2.2.1 B.2.2.2 l t=some (X2 (fZ k B l t)):=by
 unfold PV fZ;rw[yWu bS hl hd];have Ga:=PQ l t;unfold qT at hl;have:=yLj hk h (vV l t) (by omega) (by omega) (vV l t).length 0 k (by omega) (by omega);have e:((0:Nat):Int)=0:=rfl;rw[e,List.drop_zero] at this;simp;rw[this];cases tc k B (vV l t) (vV l t) with
 |none=>rfl
 |some x=>rfl
theorem vWm {k}(hk:3≤k) t (l:List zH)(hl:l.length≤1000)(uq:l.length<k)(C:BT)(r:List zH)(hr:r.length≤900)(p q:zH):
  xL k k t l 2 0 C.1 C.2.1 C.2.2.1 C.2.2.2 r [p,q]=some (t,BU l p q,C.1,C.2.1,C.2.2.1,C.2.2.2,r++[p,q]):=by
 obtain⟨n,rfl⟩:∃n,k=n+3:=⟨k-3,by omega⟩;have h1:=BN uq (show qT l from hl) p.1;have tQ:(fx l p.1).length≤l.length:=by
  unfold fx iE;cases hp:vZ l p.1 with
  |none=>simp
  |some x=>exact List.Sublist.length_le (uI l x)
 have h2:=BN (k:=n+3) (l:=fx l p.1) (by omega) (show(fx l p.1).length≤1000 by omega) q.1;have e1:zL (r.length+1) 56=true:=ow (by omega);have e2:zL ((r++[p]).length+1) 56=true:=ow (by grind);show xM (n+3) (xL (n+3) (n+2)) t l 2 0 C.1 C.2.1 C.2.2.1 C.2.2.2 r [p,q]=_;unfold xM;have g0:[p,q].getD (Int.toNat 0) (0,(0,(0,(0,(0,(0,0))))))=p:=rfl;have b0:zB 0 [p,q].length=true:=rfl;have d0:decide ((0:Int)<2)=true:=rfl;have w0:zA (0+1)=1:=by decide
 rw[d0,b0,g0,h1];simp[e1];show xM (n+3) (xL (n+3) (n+1)) t (fx l p.1) 2 1 C.1 C.2.1 C.2.2.1 C.2.2.2 (r++[p]) [p,q]=_;unfold xM;have g1:[p,q].getD (Int.toNat 1) (0,(0,(0,(0,(0,(0,0))))))=q:=rfl;have b1:zB 1 [p,q].length=true:=rfl;have d1:decide ((1:Int)<2)=true:=rfl;have w1:zA (1+1)=2:=by decide
 rw[d1,b1,g1,h2];simp only[e2];show xM (n+3) (xL (n+3) n) t (BU l p q) 2 2 C.1 C.2.1 C.2.2.1 C.2.2.2 (r++[p]++[q]) [p,q]=_;unfold xM;simp
theorem yMm {k}(hk:100<k) t:∀n B (l r:List zH),qP B→qM l→l.length≤100→l.length<n→r.length+l.length≤900→
  ∃(C:BT) (m done:List zH),K2 k n t l B.1 B.2.1 B.2.2.1 B.2.2.2 r=some (m,C.1,C.2.1,C.2.2.1,C.2.2.2,r++done)∧jZ k t B l done C m∧qP C∧C.1.length=B.1.length∧List.Sublist m l
 |n+1,B,l,r,hb,hd,hl,hn,hr=>by
  have h1:=vTo hk hb (l:=l) (by omega) (by show l.length≤1000;omega) hd t;cases hx:fZ k B l t with
  |none=>
   rw[hx] at h1;refine⟨B,l,[],?_,.stop hx,hb,rfl,by simp⟩;show Gh k _ t l B.1 B.2.1 B.2.2.1 B.2.2.2 r=_;unfold Gh;rw[h1];simp only[ae,X2,bG,ag,List.append_nil]
  |some x=>
   obtain⟨p,q,C⟩:=x;obtain⟨hp,hq,pC,hg⟩:=Gd hx;obtain⟨tQ,ng⟩:=Ge hd hp hq pC;obtain⟨oe,cQ⟩:=ta hk hb (by simp) hg;obtain⟨D,m,done,g1,g3,g4,g5,g6⟩:=yMm hk t n C (BU l p q) (r++[p,q]) oe (List.Pairwise.sublist ng hd) (by omega) (by omega) (by grind);refine⟨D,m,p::q::done,?_,.step hx g3,g4,by grind,g6.trans ng⟩;show Gh k _ t l B.1 B.2.1 B.2.2.1 B.2.2.2 r=_;unfold Gh;rw[h1];have hL:=vWm (k:=k) (by omega) t l (by omega) (by omega) C r (by omega) p q;simp only[X2,ak];simp_all
theorem vXt {k}(hk:200≤k){B}(hb:qP B){l}(hd:qM l)(hl:l.length≤100) t:
  ∃(C:BT) (m done:List zH),PW k B.1 B.2.1 B.2.2.1 B.2.2.2 l t=some (C.1,C.2.1,C.2.2.1,C.2.2.2,m,done)∧jZ k t B l done C m∧qP C∧C.1.length=B.1.length∧List.Sublist m l:=by
 obtain⟨C,m,done,h1,h3⟩:=yMm (show 100<k by omega) t k B l [] hb hd hl (by omega) (by grind);refine⟨C,m,done,?_,h3⟩;unfold PW;simp_all
def eG (l:List zH)(f:Int):Nat:=(l.filter (jB f)).length
def td (l:List zH)(many:AC)(i:Nat):Bool:=
 (decide ((l.getD i pd).2.1≥0)&&decide ((l.getD i pd).2.1<(many.length:Int)))&&decide (((eG (l.take i) (l.getD i pd).2.1:Nat):Int)<many.getD (l.getD i pd).2.1.toNat 0)
def ny (l:List zH)(many:AC):Nat→List zH
 |0=>[]
 |i+1=>ny l many i++(bif td l many i then[l.getD i pd] else[])
def vO (l:List zH)(many:AC):List zH:=ny l many l.length
theorem vDf l many:∀N,N≤l.length→List.Sublist (ny l many N) (l.take N)
 |0,_=>by simp[ny]
 |N+1,h=>by
  rw[←fi l N pd h];apply List.Sublist.append (vDf l many N (by omega));grind
theorem xN l many:List.Sublist (vO l many) l:=by
 have:=vDf l many l.length (by simp)
 rwa [List.take_length] at this
def uN (v w:AC):Prop:=v.length=w.length∧∀i,i<w.length→v.getD i 0≤w.getD i 0
def fl (B:BT)(l:List zH):AC:=uG B.1 B.2.1 B.2.2.1 B.2.2.2 l
def fy (s:AC)(m:AC):AC:=s.foldl (fun m i=>m.set i.toNat (m.getD i.toNat 0-1)) m
theorem uO:∀s m,(fy s m).length=m.length
 |[],_=>rfl
 |i::s,m=>by
  show(fy s (m.set i.toNat (m.getD i.toNat 0-1))).length=_;rw[uO s,List.length_set]
theorem yWx:∀(s:List Nat) m,s.Nodup→(∀i∈s,i<m.length)→∀j,(fy (s.map fun(x:Nat)=>(x:Int)) m).getD j 0=m.getD j 0-(if j∈s then 1 else 0)
 |[],m,_,_,j=>by simp[fy]
 |i::s,m,hs,hi,j=>by
  show(fy (s.map fun(x:Nat)=>(x:Int)) (m.set ((i:Int)).toNat (m.getD ((i:Int)).toNat 0-1))).getD j 0=_;rw[ao,yWx s _ (by grind) (by grind),fQ];grind
def uP (B:BT)(l:List zH)(i:Nat):Bool:=hY B.1 B.2.1 B.2.2.1 B.2.2.2 l i
theorem yVx B l {m}(hm:m.length=B.1.length) j:(fy (fl B l) m).getD j 0=m.getD j 0-(if j<B.1.length∧uP B l j=true then 1 else 0):=by
 have:=yWx ((List.range B.1.length).filter fun i=>uP B l i) m (List.Nodup.sublist List.filter_sublist (by grind)) (by grind) j;unfold fl uG;rw[show(fun i=>hY B.1 B.2.1 B.2.2.1 B.2.2.2 l i)=fun i=>uP B l i from rfl,this];simp
theorem X3 {B l}:fl B l=[]↔∀j,j<B.1.length→uP B l j=false:=by
 unfold fl uG;rw[List.map_eq_nil_iff,List.filter_eq_nil_iff];constructor
 ·intro h j hj;have:=h j (by grind)
  simpa[uP] using this
 ·intro h i hi;have:=h i (by grind)
  simpa[uP] using this
theorem yLh {l many p}:∀{N},p∈ny l many N→∃i,i<N∧l.getD i pd=p∧td l many i=true
 |N+1,h=>by
  unfold ny at h;rw[List.mem_append] at h;rcases h with h|h
  ·obtain⟨i,h1,h2⟩:=yLh h;grind
  grind
theorem X4 {B l}(hl:∀q∈l,yI B.1.length q){m j}(h:uP B (vO l m) j=true):1≤m.getD j 0:=by
 unfold uP hY at h;rw[bc,Bool.not_eq_true'] at h;have hn:=vBo (n:=B.1.length) (l:=vO l m) (fun q hq=>hl q ((xN l m).subset hq)) j;rw[h.1] at hn;obtain⟨x,hx,he⟩:=Pq.1 hn;obtain⟨i,h1,h2,h3⟩:=yLh (fg (d:=pd) hx);unfold td at h3;have Ph:(l.getD i pd)=(vO l m).getD x pd:=h2;grind
inductive kW (B:BT) (l:List zH):AC→AC→Nat→Prop
 |stop {m:AC} (h:fl B (vO l m)=[]):kW B l m m 0
 |step {m f:AC} {n:Nat} (h:fl B (vO l m)≠[]) (h':kW B l (fy (fl B (vO l m)) m) f n):kW B l m f (n+1)
theorem vJe {B l m}(hm:m.length=B.1.length):uN (fy (fl B l) m) m:=by
 refine⟨uO _ _,fun i hi=>?_⟩;rw[yVx B l hm];omega
theorem uN.trans {u v w}(h:uN u v)(h':uN v w):uN u w:=⟨h.1.trans h'.1,fun i hi=>Int.le_trans (h.2 i (by have:=h'.1;omega)) (h'.2 i hi)⟩
theorem uN.refl v:uN v v:=⟨rfl,by simp⟩
theorem kW.le {B l m f n}(h:kW B l m f n)(hm:m.length=B.1.length):uN f m:=by
 induction h with
 |stop _=>exact uN.refl _
 |step _ _ ih=>exact(ih ((uO _ _).trans hm)).trans (vJe hm)
theorem kW.final {B l m f n}(h:kW B l m f n):fl B (vO l f)=[]:=by
 induction h with
 |stop h=>exact h
 |step _ _ ih=>exact ih
def pD (m:AC):Prop:=∀i,0≤m.getD i 0
theorem PX {B l}(hl:∀q∈l,yI B.1.length q){m}(hm:m.length=B.1.length)(h0:pD m):pD (fy (fl B (vO l m)) m):=by
 intro i;rw[yVx B _ hm];have:=h0 i;split
 ·rename_i c;have:=X4 hl c.2;omega
 ·omega
theorem kW.nonneg {B l}(hl:∀q∈l,yI B.1.length q){m f n}(h:kW B l m f n)(hm:m.length=B.1.length)(h0:pD m):pD f:=by
 induction h with
 |stop _=>exact h0
 |step _ _ ih=>exact ih ((uO _ _).trans hm) (PX hl hm h0)
def nz (m:AC):Int:=zP (fun x=>x) m
theorem vCb:∀m i x,i<m.length→nz (m.set i x)=nz m-m.getD i 0+x
 |y::m,0,x,_=>by
  show x+nz m=y+nz m-y+x;omega
 |y::m,i+1,x,h=>by
  show y+nz (m.set i x)=y+nz m-m.getD i 0+x;rw[vCb m i x (by simp_all)];omega
theorem yN6:∀s m,(∀i∈s,0≤i∧i<(m.length:Int))→nz (fy s m)=nz m-s.length
 |[],m,_=>by simp[fy]
 |i::s,m,h=>by
  have hi:=h i (by simp);show nz (fy s (m.set i.toNat (m.getD i.toNat 0-1)))=_;rw[yN6 s _ (by grind),vCb _ _ _ (by omega)];grind
theorem X5 {B l}:∀i∈fl B l,0≤i∧i<(B.1.length:Int):=by
 intro i hi;obtain⟨x,hx,rfl⟩:=List.mem_map.1 hi;simp_all
theorem yDq:∀{m},pD m→0≤nz m
 |[],_=>Int.le_refl 0
 |x::m,h=>by
  have h1:0≤x:=h 0;have h2:=yDq (m:=m) (fun i=>h (i+1));show 0≤x+nz m;omega
theorem yEn {B l}(hl:∀q∈l,yI B.1.length q):∀(N:Nat) m,m.length=B.1.length→pD m→nz m≤N→∃f n,kW B l m f n∧n≤N
 |N,m,hm,h0,hN=>by
  by_cases c:fl B (vO l m)=[]
  ·exact⟨m,0,.stop c,by simp⟩
  ·have ht:=yN6 (fl B (vO l m)) m (by rw[hm];exact X5);have hp:0<(fl B (vO l m)).length:=by grind
   have h1:=PX hl hm h0;have h2:=yDq h1;obtain⟨N,rfl⟩:∃x,N=x+1:=⟨N-1,by omega⟩;obtain⟨f,n,h3,h4⟩:=yEn hl N _ ((uO _ _).trans hm) h1 (by omega);exact⟨f,n+1,.step c h3,by omega⟩
theorem X6 l many:∀N,(ny l many N).length≤N
 |0=>Nat.le_refl _
 |N+1=>by
  unfold ny;have:=X6 l many N;grind
theorem X7 (l:List zH) i (hi:i<l.length) f:eG (l.take (i+1)) f=eG (l.take i) f+(if(l.getD i pd).2.1=f then 1 else 0):=by
 unfold eG;rw[BJ _ _ _ pd hi,au];unfold jB;grind
def ic (l:List zH)(n:Nat):AC:=(List.range n).map fun(i:Nat)=>((eG l i:Nat):Int)
theorem yX0 l i:ic l (i+1)=ic l i++[((eG l i:Nat):Int)]:=by
 unfold ic;rw[List.range_succ,List.map_append];rfl
theorem xO l n:(ic l n).length=n:=by
 unfold ic;simp
theorem K3:∀s m i,m.getD i 0-s.length≤(fy s m).getD i 0∧(fy s m).getD i 0≤m.getD i 0
 |[],m,i=>by simp[fy]
 |x::s,m,i=>by
  have h:=K3 s (m.set x.toNat (m.getD x.toNat 0-1)) i;rw[fQ] at h;have e:fy (x::s) m=fy s (m.set x.toNat (m.getD x.toNat 0-1)):=rfl;rw[e,List.length_cons];by_cases c:x.toNat=i∧x.toNat<m.length
  ·grind
  omega
theorem yS9 (s m:AC) i (hi:i<s.length):fy (s.take (i+1)) m=(fy (s.take i) m).set (s.getD i 0).toNat ((fy (s.take i) m).getD (s.getD i 0).toNat 0-1):=by
 unfold fy;rw[←fi s i 0 hi,List.foldl_append];rfl
theorem ySq g:∀n,zP (fun x=>x) ((List.range n).map g)=qJ g n
 |0=>rfl
 |n+1=>by
  rw[List.range_succ,List.map_append,mq,ySq g n];show qJ g n+(g n+0)=qJ g n+g n;omega
theorem X8 l f:((eG l f:Nat):Int)=zP (fun p:zH=>if p.2.1=f then 1 else 0) l:=by
 induction l with
 |nil=>rfl
 |cons p l ih=>
  unfold eG jB at*
  show _=(if p.2.1=f then(1:Int) else 0)+zP _ l;grind
theorem vXe l n:nz (ic l n)≤l.length:=by
 unfold nz ic;rw[ySq (fun i:Nat=>((eG l i:Nat):Int)) n,sR (h:=fun j=>zP (fun p:zH=>if p.2.1=(j:Int) then 1 else 0) l) (fun j _=>X8 l j),Oz];have := (Ep (A := 1) (l := l) (g := fun p : zH => qJ (fun j => if p.2.1 = (j : Int) then 1 else 0) n) (fun p _=>by
  by_cases c:0≤p.2.1
  ·obtain⟨f,hf⟩:∃f:Nat,p.2.1=f:=⟨p.2.1.toNat,by omega⟩;have e:qJ (fun j=>if p.2.1=(j:Int) then(1:Int) else 0) n=qJ (fun j=>if j=f then 1 else 0) n:=by grind
   rw[e,Bq];omega
  ·have e:qJ (fun j=>if p.2.1=(j:Int) then(1:Int) else 0) n=qJ (fun _=>0) n:=by grind
   rw[e,Wn];omega)).2
 omega
theorem yVy l n i:(ic l n).getD i 0=if i<n then((eG l i:Nat):Int) else 0:=by
 unfold ic;grind
theorem X9 l f:eG l f≤l.length:=List.length_filter_le _ _
theorem PY {l}(hl:l.length≤1000) n:pD (ic l n)∧∀i,(ic l n).getD i 0≤1000:=by
 refine⟨fun i=>?_,fun i=>?_⟩
 ·rw[yVy];omega
 ·rw[yVy];have:=X9 l i;omega
theorem K4 {B:BT}{l}(hl:∀q∈l,yI B.1.length q)(bV:l.length≤64) m:wK B.1.length (vO l m):=
 ⟨fun p hp=>hl p ((xN l m).subset hp),by have:=(xN l m).length_le;omega⟩
def vA (l:List zH)(t:Int):List zH:=l.filter (kh t)
theorem K5 {n l t}(h:∀q∈l,yI n q):∀q∈vA l t,yI n q:=fun q hq=>h q (List.mem_filter.1 hq).1
theorem xP l t:(vA l t).length≤l.length:=List.length_filter_le _ _
theorem Ya {B}(hb:qP B){l}(hl:∀q∈l,yI B.1.length q)(bV:l.length≤64) t:
  ∃f n,kW B (vA l t) (ic (vA l t) B.1.length) f n∧n≤(vA l t).length:=by
 have h1:=PY (l:=vA l t) (by have:=xP l t;omega) B.1.length;have h2:=vXe (vA l t) B.1.length;exact yEn (K5 hl) (vA l t).length _ (xO _ _) h1.1 (by omega)
def pE (l:List zH)(hs:List zH):List zH:=hs.foldl (fun l p=>fx l p.1) l
theorem vX4 l id:(fx l id).length≤l.length∧List.Sublist (fx l id) l:=by
 unfold fx iE;cases vZ l id with
 |none=>simp
 |some x=>exact⟨(uI l x).length_le,uI l x⟩
theorem PZ:∀hs l,(pE l hs).length≤l.length∧List.Sublist (pE l hs) l
 |[],l=>⟨Nat.le_refl _,List.Sublist.refl _⟩
 |p::hs,l=>by
  obtain⟨h1,h2⟩:=PZ hs (fx l p.1);obtain⟨h3,h4⟩:=vX4 l p.1;exact⟨Nat.le_trans h1 h3,h2.trans h4⟩
theorem yTh (l hs:List zH) i (hi:i<hs.length):pE l (hs.take (i+1))=fx (pE l (hs.take i)) (hs.getD i pd).1:=by
 unfold pE;rw[←fi hs i pd hi,List.foldl_append];rfl
def Gj (B:BT)(l hs:List zH)(r:List yA×EQ×AC×EQ×Int):(List (Int×Int×Int))×EQ×AC×EQ×(List zH)×(List zH):=
 bif !(decide (r.2.2.2.2=0)) then(B.1,B.2.1,B.2.2.1,B.2.2.2,l,[]) else(r.1,r.2.1,r.2.2.1,r.2.2.2.1,pE l hs,hs)
theorem Yb {k:Nat}{l:List zH}(hk:l.length<k)(hl:qT l){many:AC}(h0:pD many)(hm:∀i,many.getD i 0≤1000)(Ga:many.length≤1000):Gk k l many=some (vO l many):=by
 unfold qT at hl;unfold Gk Yc Yd;rw[qI (by omega) (by omega)];simp only[ag,ae];obtain ⟨s', h1, h2, h3, h4⟩ := yX (L := fun n i (s : AC × List zH) => Gl k n l l.length i s.1 s.2) (N := l.length) (fun s => s) (fun i s => s.1.length = many.length ∧ (∀ f : Nat, f < many.length → s.1.getD f 0 = if many.getD f 0 ≤ (eG (l.take i) f : Nat) then 0 else many.getD f 0 - (eG (l.take i) f : Nat)) ∧ s.2 = ny l many i) (fun n s _=>by
  show Gm k _ l l.length l.length s.1 s.2=_;unfold Gm;simp only [qU, ab (Nat.lt_irrefl _), ak]) (fun n i s hi hs=>by
  obtain⟨s1,s2,s3⟩:=hs;have fa:s.2.length≤i:=by rw[s3];exact X6 l many i
  show∃s',Gm k _ l l.length i s.1 s.2=_∧_;unfold Gm Ye;simp only[qC,qD hi (show l.length<9223372036854775808 by omega),qU,ao,aa hi,ag,ow (show s.2.length≤1000 by omega)];have nY:=fun f=>X7 l i hi f
  have Jj:∀f:Nat,f<many.length→(l.getD i pd).2.1≠(f:Int)→(if many.getD f 0≤(eG (l.take (i+1)) f:Nat) then(0:Int) else many.getD f 0-(eG (l.take (i+1)) f:Nat))=if many.getD f 0≤(eG (l.take i) f:Nat) then 0 else many.getD f 0-(eG (l.take i) f:Nat):=by
   intro f hf bp;rw[nY f,if_neg bp,Nat.add_zero]
  have skip:td l many i=false→(∀f:Nat,f<many.length→(l.getD i pd).2.1=(f:Int)→many.getD f 0≤(eG (l.take i) f:Nat))→(s.1.length=many.length∧(∀f:Nat,f<many.length→s.1.getD f 0=if many.getD f 0≤(eG (l.take (i+1)) f:Nat) then 0 else many.getD f 0-(eG (l.take (i+1)) f:Nat))∧s.2=ny l many (i+1)):=by
   intro hh hz;refine⟨s1,fun f hf=>?_,?_⟩
   ·by_cases c:(l.getD i pd).2.1=(f:Int)
    ·have:=hz f hf c;rw[s2 f hf,if_pos this,nY f,if_pos c,if_pos (by omega)]
    ·rw[Jj f hf c,s2 f hf]
   ·show _=ny l many i++_;rw[hh,s3];simp
  cases e1:decide ((l.getD i pd).2.1<0) with
  |true=>
   refine⟨s,rfl,skip ?_ ?_⟩
   ·unfold td;rw[aX] at e1;rw[ab (show¬(l.getD i pd).2.1≥0 by omega)];rfl
   ·intro f hf c;rw[aX] at e1;omega
  |false=>
   cases e2:decide ((l.getD i pd).2.1≥((s.1.length:Nat):Int)) with
   |true=>
    refine⟨s,rfl,skip ?_ ?_⟩
    ·unfold td;rw[aX] at e2;rw[ab (show¬(l.getD i pd).2.1<(many.length:Int) by omega),Bool.and_false];rfl
    ·intro f hf c;rw[aX] at e2;omega
   |false=>
    rw[decide_eq_false_iff_not] at e1 e2;obtain⟨f,hf⟩:∃f:Nat,(l.getD i pd).2.1=f:=⟨(l.getD i pd).2.1.toNat,by omega⟩;have AR:f<many.length:=by omega
    have eF:(l.getD i (0,(0,(0,(0,(0,(0,0))))))).2.1=f:=hf;simp only[ak,eF,qC,ao,s1,aa AR,ag];have AY:td l many i=decide (((eG (l.take i) f:Nat):Int)<many.getD f 0):=by
     unfold td;rw[hf,aa (show(f:Int)≥0 by omega),aa (show(f:Int)<(many.length:Int) by omega),ao];rfl
    have mw:=s2 f AR;cases e3:decide (s.1.getD f 0<1) with
    |true=>
     rw[aX,mw] at e3;have hle:many.getD f 0≤(eG (l.take i) f:Nat):=by
      by_cases c:many.getD f 0≤(eG (l.take i) f:Nat)
      ·exact c
      ·rw[if_neg c] at e3;omega
     refine⟨s,rfl,skip (by rw[AY];exact ab (by omega)) ?_⟩;intro g hg c;have:g=f:=by omega
     subst this;exact hle
    |false=>
     rw[decide_eq_false_iff_not] at e3;have hgt:¬many.getD f 0≤(eG (l.take i) f:Nat):=by
      intro c;rw[mw,if_pos c] at e3;omega
     rw[if_neg hgt] at mw;have mh:=hm f;have hw:zA (s.1.getD f 0-1)=s.1.getD f 0-1:=zO (by omega) (by omega);refine⟨(s.1.set f (s.1.getD f 0-1),s.2++[l.getD i pd]),?_,?_,?_,?_⟩
     ·simp only[ak,ae,ag,hw]
     ·rw[List.length_set];exact s1
     ·intro g hg;rw[fQ];by_cases c:f=g
      ·subst c;rw[if_pos ⟨rfl,by omega⟩,nY f,if_pos hf,mw];by_cases d:many.getD f 0≤((eG (l.take i) f+1:Nat):Int)
       ·rw[if_pos d];omega
       ·rw[if_neg d];omega
      ·rw[if_neg (fun e=>c e.1),Jj g hg (by omega)];exact s2 g hg
     ·show s.2++[l.getD i pd]=ny l many i++_;rw[AY,aa (by omega),s3];rfl) (s:=(many,[])) hk ⟨rfl,fun f hf=>by
   have:(eG (l.take 0) f:Nat)=0:=rfl;have h0f:=h0 f;rw[this];by_cases c:many.getD f 0≤((0:Nat):Int)
   ·rw[if_pos c];show many.getD f 0=0;omega
   ·rw[if_neg c];show many.getD f 0=_;omega,rfl⟩
 have gD:Gl k k l l.length 0 many []=some s':=h1;rw[gD];simp only[ae,h4];rfl
theorem Yf {k l}(hk:l.length<k)(hl:qT l) f:K6 k l f=some (l.filter (jB f)):=by
 unfold K6 Yg;have := KC pd (L := fun n i s => K7 k n l l.length i f s) (jB f) id (fun n s=>by
  show Gn k _ l l.length l.length f s=_;unfold Gn;simp) (fun n i s hi hs=>by
  show Gn k _ l l.length i f s=_;unfold Gn Yh;unfold qT at hl;simp[qC,qD hi (by grind),ow (show s.length≤1000 by omega)];unfold jB;grind) hk
 simp_all
theorem vLs {k}{B:BT}{l}(hk:l.length<k)(hl:qT l)(hn:B.1.length<k)(hn':B.1.length≤1000) s7:
  BV k k s7 B.1.length 0 B.1 B.2.1 B.2.2.1 B.2.2.2 [] l=some (s7,B.1,B.2.1,B.2.2.1,B.2.2.2,ic l B.1.length,l):=by
 obtain ⟨s', h1, h2⟩ := yX (L := fun n i (s : AC) => BV k n s7 B.1.length i B.1 B.2.1 B.2.2.1 B.2.2.2 s l) (N := B.1.length) (fun s => (s7, B.1, B.2.1, B.2.2.1, B.2.2.2, s, l)) (fun i s => s = ic l i) (fun n s _=>by
  show Gp k _ s7 B.1.length B.1.length B.1 B.2.1 B.2.2.1 B.2.2.2 s l=_;unfold Gp;simp) (fun n i s hi hs=>by
  refine⟨_,?_,(yX0 l i).symm⟩;show Gp k _ s7 B.1.length i B.1 B.2.1 B.2.2.1 B.2.2.2 s l=_;unfold Gp;have hr:zL (s.length+1) 8=true:=by rw[hs,xO];exact qI (by omega) (by omega)
  simp[aa hi,Yf hk hl,hr,qD hi (by grind)];rw[hs];rfl) (s:=[]) hn rfl
 simp_all
theorem Yi {k}{B:BT}{l:List zH}{s m}(hk:s.length<k)(hs:s.length≤1000)(fK:∀x∈s,0≤x∧x<(m.length:Int))(h0:pD m)(hm:∀i,m.getD i 0≤1000) s7:
  Gq k k s7 s.length 0 B.1 B.2.1 B.2.2.1 B.2.2.2 m l s=some (s7,B.1,B.2.1,B.2.2.1,B.2.2.2,fy s m,l):=by
 obtain ⟨s', h1, h2⟩ := yX (L := fun n i (r : AC) => Gq k n s7 s.length i B.1 B.2.1 B.2.2.1 B.2.2.2 r l s) (N := s.length) (fun r => (s7, B.1, B.2.1, B.2.2.1, B.2.2.2, r, l)) (fun i r => r = fy (s.take i) m) (fun n r _=>by
  show Gr k _ s7 s.length s.length B.1 B.2.1 B.2.2.1 B.2.2.2 r l s=_;unfold Gr;simp) (fun n i r hi hr=>by
  refine⟨_,?_,(yS9 s m i hi).symm⟩;show Gr k _ s7 s.length i B.1 B.2.1 B.2.2.1 B.2.2.2 r l s=_;unfold Gr;obtain⟨b1,b2⟩:=fK _ (fg (d:=0) hi);have tS:r.length=m.length:=by rw[hr,uO]
  have hb:zB (s.getD i 0) r.length=true:=wV b1 (by omega);have Wj:=K3 (s.take i) m (s.getD i 0).toNat;have Jc:=h0 (s.getD i 0).toNat;have mh:=hm (s.getD i 0).toNat;have bn:(s.take i).length≤s.length:=by grind
  have hw:zA (r.getD (s.getD i 0).toNat 0-1)=r.getD (s.getD i 0).toNat 0-1:=by
   rw[hr];exact zO (by omega) (by omega)
  simp only[qU,qC,ao,aa hi,ag,hb,hw,qD hi (by grind)];rw[hr]) (s:=m) hk rfl
 simp_all
theorem vP4 {k}(hk:100<k){B}(hb:qP B){l}(hl:∀q∈l,yI B.1.length q)(bV:l.length≤64){m f n}(h:kW B l m f n):
  ∀N (s7:Int),m.length=B.1.length→pD m→(∀i,m.getD i 0≤1000)→n<N→0≤s7→s7+n<1000000→
  K8 k N s7 B.1 B.2.1 B.2.2.1 B.2.2.2 m l=some (s7+n+1,f):=by
 induction h with
 |@stop m h=>
  intro N s7 hm h0 h1 hn hs ub;obtain⟨N,rfl⟩:∃x,N=x+1:=⟨N-1,by omega⟩;have gJ:=hb.n6;show Gs k _ s7 B.1 B.2.1 B.2.2.1 B.2.2.2 m l=_;unfold Gs;have hS:=Xl hk hb (K4 hl bV m);have oX:BH k B.1 B.2.1 B.2.2.1 B.2.2.2 (vO l m)=some (fl B (vO l m)):=hS;rw[Yb (by omega) (show qT l by show l.length≤1000;omega) h0 h1 (by omega)];simp[ae];rw[oX,h];have w:zA (s7+1)=s7+1:=zO (by omega) (by omega);rw[w];simp
 |@step m f n h h' ih=>
  intro N s7 hm h0 h1 hn hs ub;obtain⟨N,rfl⟩:∃x,N=x+1:=⟨N-1,by omega⟩;have gJ:=hb.n6;show Gs k _ s7 B.1 B.2.1 B.2.2.1 B.2.2.2 m l=_;unfold Gs;have hS:=Xl hk hb (K4 hl bV m);have oX:BH k B.1 B.2.1 B.2.2.1 B.2.2.2 (vO l m)=some (fl B (vO l m)):=hS;rw[Yb (by omega) (show qT l by show l.length≤1000;omega) h0 h1 (by omega)];simp only[ae];rw[oX];simp only[ae];have w:zA (s7+1)=s7+1:=zO (by omega) (by omega);have bp : decide ((((fl B (vO l m)).length : Nat) : Int) = 0) = false := ab (by
   simp_all)
  have fa:(fl B (vO l m)).length≤B.1.length:=by
   unfold fl uG;grind
  rw[bp,w];rw[Yi (by omega) (by omega) (by rw[hm];exact X5) h0 h1];simp;have Yj:=PX hl hm h0;have:=ih N (s7+1) ((uO _ _).trans hm) Yj (fun i=>by have:=(K3 (fl B (vO l m)) m i).2;have:=h1 i;omega) (by omega) (by omega) (by omega);rw[this]
  congr 2
  omega
theorem vTx {k}(hk:100<k){B}(hb:qP B){l}(hl:∀q∈l,yI B.1.length q)(bV:l.length≤64) t {f n}(hn:n≤l.length)(h:kW B (vA l t) (ic (vA l t) B.1.length) f n):
  P0 k B.1 B.2.1 B.2.2.1 B.2.2.2 l t=some (f,((n+1:Nat):Int)):=by
 have gJ:=hb.n6;have hr:=xP l t;have h1:=PY (l:=vA l t) (by omega) B.1.length;unfold P0;rw[Xo (by omega) (by show l.length≤1000;omega)];simp;have e:BV k k 0 B.1.length 0 B.1 B.2.1 B.2.2.1 B.2.2.2 [] (l.filter (kh t))=_:=vLs (k:=k) (B:=B) (l:=vA l t) (by omega) (by show(vA l t).length≤1000;omega) (by omega) (by omega) 0;rw[e];simp;rw[vP4 hk hb (K5 hl) (by omega) h k 0 (xO _ _) h1.1 h1.2 (by omega) (by omega) (by omega)];simp
theorem vHr {k}{C:BT}{l hs:List zH}(hl:l.length<k)(dQ:l.length≤1000)(hk:hs.length<k)(hh:hs.length≤1000):
  BW k k l hs.length 0 C.1 C.2.1 C.2.2.1 C.2.2.2 hs=some (pE l hs,C.1,C.2.1,C.2.2.1,C.2.2.2,hs):=by
 obtain ⟨s', h1, h2⟩ := yX (L := fun n i (s : List zH) => BW k n s hs.length i C.1 C.2.1 C.2.2.1 C.2.2.2 hs) (N := hs.length) (fun s => (s, C.1, C.2.1, C.2.2.1, C.2.2.2, hs)) (fun i s => s = pE l (hs.take i)) (fun n s _=>by
  show Gt k _ s hs.length hs.length C.1 C.2.1 C.2.2.1 C.2.2.2 hs=_;unfold Gt;simp) (fun n i s hi hr=>by
  refine⟨_,?_,(yTh l hs i hi).symm⟩;show Gt k _ s hs.length i C.1 C.2.1 C.2.2.1 C.2.2.2 hs=_;unfold Gt;have fa:=(PZ (hs.take i) l).1;rw[←hr] at fa⊢;simp[qC,aa hi,BN (show s.length<k by omega) (show qT s by show s.length≤1000;omega),qD hi (by grind)];rfl) (s:=l) hk rfl
 simp_all
theorem Yk {k:Nat}(hk:100<k){B:BT}(hb:qP B){l:List zH}(hl:∀q∈l,yI B.1.length q)(bV:l.length≤64)(t:Int){f:AC}{n:Nat}(hn:n≤l.length)(h:kW B (vA l t) (ic (vA l t) B.1.length) f n)
  {r:List yA×EQ×AC×EQ×Int} (hr:qx k B.1 B.2.1 B.2.2.1 B.2.2.2 (vO (vA l t) f)=some r):BX k B.1 B.2.1 B.2.2.1 B.2.2.2 l t=some (Gj B l (vO (vA l t) f) r):=by
 have gJ:=hb.n6;have tS:=xP l t;have h1:=PY (l:=vA l t) (by omega) B.1.length;have hle:=h.le (xO _ _);have h0:=h.nonneg (K5 hl) (xO _ _) h1.1;have AR:f.length=B.1.length:=hle.1.trans (xO _ _);have hf:∀i,f.getD i 0≤1000:=fun i=>by
  by_cases c:i<(ic (vA l t) B.1.length).length
  ·have:=hle.2 i c;have:=h1.2 i;omega
  ·rw[bL,List.getElem?_eq_none (by have:=hle.1;omega)];show(0:Int)≤1000;omega
 have P1:=(xN (vA l t) f).length_le;unfold BX;rw[vTx hk hb hl bV t hn h,Xo (by omega) (by show l.length≤1000;omega)];simp only[ae];have e:Gk k (l.filter (kh t)) f=_:=Yb (k:=k) (l:=vA l t) (by omega) (by show(vA l t).length≤1000;omega) h0 hf (by omega);rw[e];simp only[ae];rw[hr];simp only[ae];unfold Gj;cases decide (r.2.2.2.2=0) with
 |false=>rfl
 |true=>
  simp only[aB,ak];have e2:BW k k l ((List.length (vO (vA l t) f):Nat):Int) 0 r.1 r.2.1 r.2.2.1 r.2.2.2.1 (vO (vA l t) f)=_:=vHr (C:=(r.1,r.2.1,r.2.2.1,r.2.2.2.1)) (by omega) (by omega) (by omega) (by omega);rw[e2];rfl
theorem Yl {l x}(hx:x<l.length):List.Perm (l.getD x pd::yF l x) l:=by
 unfold yF;have h:List.Perm (l.getD x pd::(l.take x++l.drop (x+1))) (l.take x++l.getD x pd::l.drop (x+1)):=by grind
 simp_all
theorem P2 {l}(hd:qM l){p}(hp:p∈l):List.Perm (p::fx l p.1) l:=by
 obtain⟨x,hx⟩:=Py hp;have h:=kU hx;have e:l.getD x pd=p:=hd.eq_of (by grind) hp h.2;unfold fx iE;have:=Yl h.1;simp_all
theorem hZ.perm {k t B C l done m}(h:hZ k t B l done C m)(hd:qM l):List.Perm (done++m) l:=by
 induction h with
 |stop _=>rfl
 |step h _ ih=>
  have hp:=F8 (BS h).1;exact((ih (List.Pairwise.sublist (uM hp).2 hd)).cons _).trans (P2 hd hp)
theorem jZ.perm {k t B C l done m}(h:jZ k t B l done C m)(hd:qM l):List.Perm (done++m) l:=by
 induction h with
 |stop _=>rfl
 |step h _ ih=>
  obtain⟨hp,hq,pC,_⟩:=Gd h;obtain⟨h1,h2⟩:=Ge hd hp hq pC;have wy:qM (fx _ _):=List.Pairwise.sublist (uM hp).2 hd;have pz:=X1 hp hq (vF7 hd hp hq pC);exact(((ih (List.Pairwise.sublist h2 hd)).cons _).cons _).trans (((P2 wy pz).cons _).trans (P2 hd hp))
theorem hZ.final {k t B C l done m}(h:hZ k t B l done C m):eE k C (vV m t)=none:=by
 induction h with
 |stop h=>exact h
 |step _ _ ih=>exact ih
theorem jZ.final {k t B C l done m}(h:jZ k t B l done C m):fZ k C m t=none:=by
 induction h with
 |stop h=>exact h
 |step _ _ ih=>exact ih
theorem qM.perm {l m}(h:qM l)(hp:List.Perm m l):qM m:=(List.Perm.pairwise_iff (R:=fun p q:zH=>p.1≠q.1) (by grind) hp.symm).1 h
inductive my (k:Nat) (t:Int):BT→List zH→List zH→BT→List zH→Prop
 |stop {B C:BT} {l m d:List zH} (h1:hZ k t B l d C m) (h2:fZ k C m t=none):my k t B l d C m
 |step {B C D E:BT} {l m n o d e f:List zH} (h1:hZ k t B l d C m) (h2:jZ k t C m e D n) (ne:e≠[]) (h':my k t D n f E o):my k t B l (d++e++f) E o
theorem my.perm {k t B C l done m}(h:my k t B l done C m)(hd:qM l):List.Perm (done++m) l:=by
 induction h with
 |stop h1 _=>exact h1.perm hd
 |@step B C D E l m n o d e f h1 h2 ne h' ih=>
  have p1:=h1.perm hd;have hd1:=hd.perm p1;have hm:qM m:=(List.pairwise_append.1 hd1).2.1;have p2:=h2.perm hm;have hn:qM n:=(List.pairwise_append.1 (hm.perm p2)).2.1;grind
theorem my.final {k t B C l done m}(h:my k t B l done C m):eE k C (vV m t)=none∧fZ k C m t=none:=by
 induction h with
 |stop h1 h2=>exact⟨h1.final,h2⟩
 |step _ _ _ _ ih=>exact ih
theorem hZ.none {k t B C l done m}(h:hZ k t B l done C m)(hn:eE k B (vV l t)=none):done=[]∧C=B∧m=l:=by
 cases h with
 |stop _=>simp
 |step h _=>simp_all
theorem jZ.none {k t B C l done m}(h:jZ k t B l done C m)(hn:fZ k B l t=none):done=[]∧C=B∧m=l:=by
 cases h with
 |stop _=>simp
 |step h _=>simp_all
theorem jZ.nil {k t B C l m}(h:jZ k t B l [] C m):fZ k B l t=Option.none∧C=B∧m=l:=by
 cases h with
 |stop h=>simp_all
theorem my.none {k t B C l done m}(h:my k t B l done C m)(h1:eE k B (vV l t)=Option.none)(h2:fZ k B l t=Option.none):done=[]∧C=B∧m=l:=by
 cases h with
 |stop g1 _=>exact g1.none h1
 |step g1 g2 ne _=>
  obtain⟨rfl,rfl,rfl⟩:=g1.none h1;obtain⟨rfl,_,_⟩:=g2.none h2;simp_all
theorem yL2 {k:Nat}(hk:200≤k)(t:Int):∀(n:Nat) (B:BT) (l r:List zH),qP B→qM l→l.length≤100→l.length<n→r.length+l.length≤900→
  ∃(C:BT) (m done:List zH),K9 k n t l B.1 B.2.1 B.2.2.1 B.2.2.2 r=some (m,C.1,C.2.1,C.2.2.1,C.2.2.2,r++done)∧my k t B l done C m∧qP C∧C.1.length=B.1.length∧List.Sublist m l
 |0,_,_,_,_,_,_,h,_=>absurd h (Nat.not_lt_zero _)
 |n+1,B,l,r,hb,hd,hl,hn,hr=>by
  obtain⟨C,m,d,f1,f2,f3,f4,f5⟩:=vYl hk hb hd hl t;have p1:=f2.perm hd;have l1:=p1.length_eq;rw[au] at l1;have hm:qM m:=List.Pairwise.sublist f5 hd;obtain⟨D,o,e,g1,g2,g3,g4,g5⟩:=vXt hk f3 hm (by omega) t;have p2:=g2.perm hm;have l2:=p2.length_eq;rw[au] at l2;have r1:zL (r.length+d.length) 56=true:=qI (by omega) (by omega);have r2:zL ((r++d).length+e.length) 56=true:=qI (by rw[au];omega) (by grind);show∃C' m' ad6,P3 k _ t l B.1 B.2.1 B.2.2.1 B.2.2.2 r=_∧_;unfold P3;rw[f1];simp only[ae];rw[g1];simp only[ae,r1,r2,ag];cases e with
  |nil=>
   obtain⟨h1,h2,h3⟩:=g2.nil;subst h2;subst h3;refine⟨D,o,d,?_,.stop f2 h1,f3,f4,f5⟩;simp
  |cons p e=>
   have bn:o.length+(e.length+1)=m.length:=by simp at l2;omega
   obtain⟨E,q,f,k1,k2,k3,k4,k5⟩:=yL2 hk t n D o (r++d++(p::e)) g3 (List.Pairwise.sublist g5 hm) (by omega) (by omega) (by simp;omega);refine⟨E,q,d++(p::e)++f,?_,.step f2 g2 (by simp) k2,k3,k4.trans (g4.trans f4),k5.trans (g5.trans f5)⟩;grind
theorem Gu {k}(hk:200≤k){B}(hb:qP B){l}(hd:qM l)(hl:l.length≤100) t:
  ∃(C:BT) (m done:List zH),La k B.1 B.2.1 B.2.2.1 B.2.2.2 l t=some (C.1,C.2.1,C.2.2.1,C.2.2.2,m,done)∧my k t B l done C m∧qP C∧C.1.length=B.1.length∧List.Sublist m l:=by
 obtain⟨C,m,done,h1,h3⟩:=yL2 hk t k B l [] hb hd hl (by omega) (by grind);refine⟨C,m,done,?_,h3⟩;unfold La;simp_all
theorem vAl:∀hs l,qM l→qM hs→(∀q∈hs,q∈l)→List.Perm (hs++pE l hs) l
 |[],l,_,_,_=>List.Perm.refl _
 |p::hs,l,hd,hh,fK=>by
  have hp:=fK p (by simp);obtain⟨h1,h2⟩:=uM hp;have hc:=List.pairwise_cons.1 hh;have:=vAl hs (fx l p.1) (List.Pairwise.sublist h2 hd) hc.2 (fun q hq=>X1 hp (by grind) (by grind));exact(this.cons p).trans (P2 hd hp)
theorem vJr {k}(hk:100<k){B}(hb:qP B):qx k B.1 B.2.1 B.2.2.1 B.2.2.2 []=some (B.1,B.2.1,B.2.2.1,B.2.2.2,0):=by
  obtain⟨r,h1,h3⟩:=Pd hk hb (l:=[]) (by simp);have aS:wK B.1.length []:=⟨by simp,by simp⟩;obtain⟨a',p',h4,h5⟩:=h3.1 aS;have an:uC B.1.length B.1 B.2.2.2 [] B.1 B.2.2.2:={
    al:=rfl
    acct:=fun i hi=>by
      have hr:0≤(B.1.getD i ad).2.2:=by
        have:=hb.nums.res i hi;omega
      show B.1.getD i ad=((B.1.getD i ad).1+0,(B.1.getD i ad).2.1,jH (B.1.getD i ad).2.2 0);have e:jH (B.1.getD i ad).2.2 0=(B.1.getD i ad).2.2:=by
        unfold jH;omega
      simp_all
    pl:=hb.pl
    pr:=hb.pr
    cell:=fun i hi j hj=>by show _=_+0-0;omega}
  obtain⟨e1,e2⟩:=h4.same an;subst e1;subst e2;rw[OZ.2 hb] at h5;simp_all
theorem Ym {k:Nat}(hk:200≤k){B:BT}(hb:qP B){l:List zH}(hd:qM l)(hl:∀q∈l,yI B.1.length q)(bV:l.length≤64)(t:Int):
  ∃(C:BT) (m done:List zH),BX k B.1 B.2.1 B.2.2.1 B.2.2.2 l t=some (C.1,C.2.1,C.2.2.1,C.2.2.2,m,done)∧qP C∧C.1.length=B.1.length∧List.Sublist m l∧List.Perm (done++m) l∧(done=[]→C=B∧m=l):=by
 obtain⟨f,n,h,hn⟩:=Ya hb hl bV t;have tS:=xP l t;have cR:=xN (vA l t) f;have P1:=cR.length_le;obtain⟨r,h1,h2,h3⟩:=F7 (k:=k) (by omega) hb (l:=vO (vA l t) f) (by omega);have hs:=PO hb h3;have g1:=Yk (k:=k) (by omega) hb hl bV t (by omega) h h1;unfold Gj at g1;cases c:decide (r.2.2.2.2=0) with
 |false=>
  rw[c] at g1;exact⟨B,l,[],g1,hb,rfl,List.Sublist.refl _,List.Perm.refl _,fun _=>⟨rfl,rfl⟩⟩
 |true=>
  rw[c] at g1;have fa:List.Sublist (vO (vA l t) f) l:=cR.trans List.filter_sublist;have hal:r.1.length=B.1.length:=by
   by_cases c':wK B.1.length (vO (vA l t) f)
   ·obtain⟨a',p',x,e⟩:=h3.1 c';cases hi:nu a' B.2.1 B.2.2.1 p' with
    |false=>rw[hi] at e;subst e;rfl
    |true=>rw[hi] at e;subst e;exact x.al
   ·rw[h3.2 c']
  refine⟨(r.1,r.2.1,r.2.2.1,r.2.2.2.1),pE l (vO (vA l t) f),vO (vA l t) f,g1,hs.2.1,hal,(PZ _ _).2,vAl _ _ hd (List.Pairwise.sublist fa hd) (fun q hq=>fa.subset hq),fun e=>?_⟩;rw[e] at h1⊢;rw[vJr (by omega) hb] at h1;cases h1;exact⟨rfl,rfl⟩
theorem yVk {k}(hk:200≤k){B}(hb:qP B){l}(hd:qM l)(hl:∀q∈l,yI B.1.length q)(bV:l.length≤64) t all:
  ∃(C:BT) (m done:List zH),uQ k B.1 B.2.1 B.2.2.1 B.2.2.2 l t all=some (C.1,C.2.1,C.2.2.1,C.2.2.2,m,done)∧qP C∧C.1.length=B.1.length∧List.Sublist m l∧List.Perm (done++m) l∧eE k C (vV m t)=none∧fZ k C m t=none:=by
 obtain⟨C,m,d,f1,f2,f3,f4,f5⟩:=Gu hk hb hd (by omega) t;have p1:=f2.perm hd;have l1:=p1.length_eq;rw[au] at l1;unfold uQ;rw[f1];simp only[ae];cases all with
 |false=>exact⟨C,m,d,rfl,f3,f4,f5,p1,f2.final⟩
 |true=>
  have hm:qM m:=List.Pairwise.sublist f5 hd;obtain⟨D,n,x,g1,g2,g3,g4,g5,g6⟩:=Ym hk f3 hm (by grind) (by omega) t;have l2:=g5.length_eq;rw[au] at l2;rw[g1];simp only[ae];cases x with
  |nil=>
   obtain⟨rfl,rfl⟩:=g6 rfl;exact⟨D,n,d,rfl,f3,f4,f5,p1,f2.final⟩
  |cons p x=>
   have e1:decide ((((p::x).length:Nat):Int)=0)=false:=by grind
   have hn:qM n:=List.Pairwise.sublist g4 hm;obtain⟨E,o,y,k1,k2,k3,k4,k5⟩:=Gu hk g2 hn (by omega) t;have p3:=k2.perm hn;have l3:=p3.length_eq;rw[au] at l3;have r1:zL (d.length+(p::x).length) 56=true:=qI (by omega) (by omega);have r2:zL ((d++(p::x)).length+y.length) 56=true:=qI (by simp at l2⊢;omega) (by simp at l2⊢;omega);rw[k1];simp only[ae,r1,r2];refine⟨E,o,d++(p::x)++y,rfl,k3,k4.trans (g3.trans f4),k5.trans (g4.trans f5),?_,k2.final⟩;have e2:d++(p::x)++y++o=d++((p::x)++(y++o)):=by simp
   rw[e2];exact((p3.append_left (p::x)).append_left d).trans ((g5.append_left d).trans p1)
abbrev qY:=Int×Int×Int×Int×Int×Int×Int×Int
instance BY:DecidableEq qY:=@instDecidableEqProd Int (Int×Int×Int×Int×Int×Int×Int) inferInstance (@instDecidableEqProd Int (Int×Int×Int×Int×Int×Int) inferInstance inferInstance)
def fS (to:Int)(p:zH):qY:=(to,18,p.1,p.2.1,p.2.2.1,p.2.2.2.1,0,0)
def tf (p:zH):List qY:=[fS p.2.1 p,fS p.2.2.1 p]
def yY:List zH→List qY
 |[]=>[]
 |p::l=>tf p++yY l
theorem vEj:∀l m,yY (l++m)=yY l++yY m
 |[],_=>rfl
 |p::l,m=>by
  show tf p++yY (l++m)=tf p++yY l++yY m;rw[vEj l m,List.append_assoc]
theorem BZ:∀l,(yY l).length=2*l.length
 |[]=>rfl
 |p::l=>by
  show(tf p++yY l).length=_;rw[au,BZ l];simp[tf];omega
theorem yDf (l:List zH) i (hi:i<l.length):yY (l.take (i+1))=yY (l.take i)++tf (l.getD i pd):=by
 rw[←fi l i pd hi,vEj];rfl
theorem xQ {n}(h:n≤1000):zL (n+1) 64=true:=qI (by omega) (by omega)
theorem vZs {k}(hk:3≤k)(s8:List zH) s9 ax (r:List qY)(hr:r.length≤900) p:
  xR k k s8 s9 ax 2 0 r p.1 p.2.1 p.2.2.1 p.2.2.2.1 p.2.2.2.2.1 p.2.2.2.2.2.1 p.2.2.2.2.2.2 [p.2.1,p.2.2.1]=some (s8,s9,ax,r++tf p):=by
 obtain⟨n,rfl⟩:∃n,k=n+3:=⟨k-3,by omega⟩;have e1:zL (r.length+1) 64=true:=xQ (by omega);have e2:zL ((r++[fS p.2.1 p]).length+1) 64=true:=xQ (by grind);have h1:rp (n+3) p.2.1 18 [p.1,p.2.1,p.2.2.1,p.2.2.2.1]=some (fS p.2.1 p):=rfl;have h2:rp (n+3) p.2.2.1 18 [p.1,p.2.1,p.2.2.1,p.2.2.2.1]=some (fS p.2.2.1 p):=rfl;have w0:zA (0+1)=1:=by decide
 have w1:zA (1+1)=2:=by decide
 show xS (n+3) (xR (n+3) (n+2)) s8 s9 ax 2 0 r p.1 p.2.1 p.2.2.1 p.2.2.2.1 p.2.2.2.2.1 p.2.2.2.2.2.1 p.2.2.2.2.2.2 [p.2.1,p.2.2.1]=_;unfold xS;have g0:[p.2.1,p.2.2.1].getD (Int.toNat 0) 0=p.2.1:=rfl;have b0:zB 0 [p.2.1,p.2.2.1].length=true:=rfl;have d0:decide ((0:Int)<2)=true:=rfl;simp[e1];show xS (n+3) (xR (n+3) (n+1)) s8 s9 ax 2 1 (r++[fS p.2.1 p]) p.1 p.2.1 p.2.2.1 p.2.2.2.1 p.2.2.2.2.1 p.2.2.2.2.2.1 p.2.2.2.2.2.2 [p.2.1,p.2.2.1]=_;unfold xS;have g1:[p.2.1,p.2.2.1].getD (Int.toNat 1) 0=p.2.2.1:=rfl;have b1:zB 1 [p.2.1,p.2.2.1].length=true:=rfl;have d1:decide ((1:Int)<2)=true:=rfl;simp only[ag,ae,e2];show xS (n+3) (xR (n+3) n) s8 s9 ax 2 2 (r++[fS p.2.1 p]++[fS p.2.2.1 p]) p.1 p.2.1 p.2.2.1 p.2.2.2.1 p.2.2.2.2.1 p.2.2.2.2.2.1 p.2.2.2.2.2.2 [p.2.1,p.2.2.1]=_;unfold xS;have d2:decide ((2:Int)<2)=false:=rfl;rw[d2,List.append_assoc];rfl
theorem Yn {k}{l:List zH}(hk:l.length+3≤k)(hl:l.length≤400):P4 k l=some (yY l):=by
 unfold P4;obtain ⟨s', h1, h2⟩ := yX (L := fun n i (s : List qY) => Lb k n l l.length i s) (N := l.length) (fun s => s) (fun i s => s = yY (l.take i)) (fun n s _=>by
  show Gv k _ l l.length l.length s=_;unfold Gv;simp) (fun n i s hi hs=>by
  refine⟨_,?_,(yDf l i hi).symm⟩;show Gv k _ l l.length i s=_;unfold Gv;have fa:s.length≤900:=by
   rw[hs,BZ,bQ];omega
  have h2:=vZs (k:=k) (by omega) l l.length i s fa (l.getD i pd);simp only[qC,qU,ao,aa hi,ag];rw[h2];simp[qD hi (by grind)];rw[hs]) (s:=[]) (show l.length<k by omega) rfl
 simp_all
theorem vX5 {k}{l:List zH}(hk:l.length+5≤k)(hl:l.length≤400):P5 k l=some (yY l):=by
 unfold P5;obtain ⟨s', h1, h2⟩ := yX (L := fun n i (s : List qY) => Lc k n l i s) (N := l.length) (fun s => s) (fun i s => s = yY (l.take i)) (fun n s _=>by
  show Gw k _ l l.length s=_;unfold Gw;simp) (fun n i s hi hs=>by
  refine⟨_,?_,(yDf l i hi).symm⟩;show Gw k _ l i s=_;unfold Gw;have fa:s.length≤900:=by
   rw[hs,BZ,bQ];omega
  obtain⟨j,rfl⟩:∃j,k=j+5:=⟨k-5,by omega⟩;have e2:zL (s.length+2) 64=true:=qI (by omega) (by omega);simp[qC,aa hi,e2,qD hi (by grind)];rw[hs];rfl) (s:=[]) (show l.length<k by omega) rfl
 simp_all
def gi (q:zH)(o:qY):Bool:=decide (o.2.2.1=q.1)&&(decide (o.1=q.2.1)&&(decide (o.2.1=21)||(decide (o.2.1=22)||decide (o.2.1=18))))
def kX (q:zH)(o:List qY):Nat:=o.countP (gi q)
theorem B1 q a b:kX q (a++b)=kX q a+kX q b:=List.countP_append
theorem Yo {f:zH→Bool}{q:zH}:∀{ps:List zH},qM ps→q∈ps→f q=true→(∀p∈ps,f p=true→p.1=q.1)→ps.countP f=1
 |[],_,h,_,_=>by cases h
 |p::ps,hd,hq,hf,hu=>by
  have hc:=List.pairwise_cons.1 hd;rw[List.countP_cons];rcases List.mem_cons.1 hq with rfl|hq
  ·rw[hf,if_pos rfl];have:ps.countP f=0:=by
    rw[List.countP_eq_zero];intro r hr Be;exact hc.1 r hr (hu r (List.mem_cons_of_mem _ hr) Be).symm
   omega
  ·have:f p=false:=by
    cases h:f p with
    |false=>rfl
    |true=>exact absurd (hu p (List.mem_cons_self ..) h) (hc.1 q hq)
   rw[this,Yo hc.2 hq hf (fun r hr=>hu r (List.mem_cons_of_mem _ hr))];rfl
def wU (kd:Int)(p:zH):qY:=(p.2.1,kd,p.1,0,0,0,0,0)
theorem Gx {kd:Int}(hk:kd=21∨kd=22){q:zH}{ps:List zH}(hd:qM ps):(q∈ps→kX q (ps.map (wU kd))=1)∧((∀p∈ps,p.1≠q.1)→kX q (ps.map (wU kd))=0):=by
 unfold kX;rw[List.countP_map];constructor
 ·intro h;apply Yo hd h
  ·show gi q (wU kd q)=true;unfold gi wU;rcases hk with rfl|rfl<;>simp
  ·intro p hp hf;have eF:gi q (wU kd p)=true:=hf;unfold gi wU at eF;rw[bc,aX] at eF;exact eF.1
 ·intro h;rw[List.countP_eq_zero];intro p hp hf;have eF:gi q (wU kd p)=true:=hf;unfold gi wU at eF;rw[bc,aX] at eF;exact h p hp eF.1
theorem vBt q:∀d,kX q (yY d)=d.countP (fun p=>gi q (fS p.2.1 p))+d.countP (fun p=>gi q (fS p.2.2.1 p))
 |[]=>rfl
 |p::d=>by
  show kX q (tf p++yY d)=_;rw[B1,vBt q d,List.countP_cons,List.countP_cons];have e:kX q (tf p)=(if gi q (fS p.2.1 p)=true then 1 else 0)+(if gi q (fS p.2.2.1 p)=true then 1 else 0):=by
   unfold kX tf;grind
  omega
theorem P6 {n:Nat}{q:zH}{d:List zH}(hd:qM d)(hm:∀p∈d,yI n p):(q∈d→kX q (yY d)=1)∧((∀p∈d,p.1≠q.1)→kX q (yY d)=0):=by
 have h2:∀(l:List zH),qM l→(∀p∈l,yI n p)→(q∈l∨∀p∈l,p.1≠q.1)→l.countP (fun p=>gi q (fS p.2.2.1 p))=0:=by
  intro l pv Ga hq;rw[List.countP_eq_zero];intro p hp hf;have eF:gi q (fS p.2.2.1 p)=true:=hf;unfold gi fS at eF;rw[bc,bc,aX,aX] at eF;rcases hq with hq|hq
  ·have:=pv.eq_of hp hq eF.1;subst this;exact(Ga p hp).ne eF.2.1.symm
  ·exact hq p hp eF.1
 rw[vBt];constructor
 ·intro h;rw[h2 d hd hm (.inl h),Yo hd h]
  ·show gi q (fS q.2.1 q)=true;unfold gi fS;simp
  ·intro p hp hf;have eF:gi q (fS p.2.1 p)=true:=hf;unfold gi fS at eF;rw[bc,aX] at eF;exact eF.1
 ·intro h;rw[h2 d hd hm (.inr h)];have:d.countP (fun p=>gi q (fS p.2.1 p))=0:=by
   rw[List.countP_eq_zero];intro p hp hf;have eF:gi q (fS p.2.1 p)=true:=hf;unfold gi fS at eF;rw[bc,aX] at eF;exact h p hp eF.1
  omega
def xT (B:BT)(i:Nat):qY:=((i:Int),23,(B.1.getD i ad).1,0,0,0,0,0)
def iW (B:BT)(n:Nat):List qY:=(List.range n).map (xT B)
theorem vCa q B n:kX q (iW B n)=0:=by
 unfold kX iW;rw[List.countP_map,List.countP_eq_zero];intro i _ hf;have eF:gi q (xT B i)=true:=hf;unfold gi xT at eF;simp at eF
theorem yWp B i:iW B (i+1)=iW B i++[xT B i]:=by
 unfold iW;rw[List.range_succ,List.map_append];rfl
theorem yM8 {α β:Type}(f:α→β)(l:List α) i d (h:i<l.length):(l.take (i+1)).map f=(l.take i).map f++[f (l.getD i d)]:=by
 rw[←fi l i d h,List.map_append];rfl
theorem yO2 {k B}(hB:B.1.length≤6)(hk:200≤k){m:List zH}(hm:m.length≤100) t pr ho ids to ov:
  P7 k t B.1 B.2.1 B.2.2.1 B.2.2.2 pr ho m ids to ov=some (t,B.1,B.2.1,B.2.2.1,B.2.2.2,pr,ho,[],ids,to,true,m.map (wU 22)++iW B B.1.length):=by
 unfold P7;obtain ⟨s', h1, h2⟩ := yX (L := fun n i (s : List qY) => Gy k n m m.length i t B.1 B.2.1 B.2.2.1 B.2.2.2 pr ho m ids to ov 0 0 false s) (N := m.length) (fun s => (t, B.1, B.2.1, B.2.2.1, B.2.2.2, pr, ho, m, ids, to, ov, 0, 0, false, s)) (fun i s => s = (m.take i).map (wU 22)) (fun n s _=>by
  show Gz k _ m m.length m.length t B.1 B.2.1 B.2.2.1 B.2.2.2 pr ho m ids to ov 0 0 false s=_;unfold Gz;simp) (fun n i s hi hs=>by
  refine⟨_,?_,(yM8 (wU 22) m i pd hi).symm⟩;show Gz k _ m m.length i t B.1 B.2.1 B.2.2.1 B.2.2.2 pr ho m ids to ov 0 0 false s=_;unfold Gz;have fa:s.length≤900:=by grind
  have GA:rp k (m.getD i pd).2.1 22 [(m.getD i pd).1]=some (wU 22 (m.getD i pd)):=rfl;simp only[qC,qU,ao,aa hi,ag,GA,ae,xQ (show s.length≤1000 by omega),qD hi (by grind)];rw[hs]) (s:=[]) (show m.length<k by omega) rfl
 have gD:Gy k k m m.length 0 t B.1 B.2.1 B.2.2.1 B.2.2.2 pr ho m ids to ov 0 0 false []=_:=h1;rw[gD,h2,List.take_length];obtain ⟨s2, g1, g2⟩ := yX (L := fun n i (s : List qY) => Ld k n B.1 B.1.length i t B.1 B.2.1 B.2.2.1 B.2.2.2 pr ho m ids to ov 0 0 false s) (N := B.1.length) (fun s => (t, B.1, B.2.1, B.2.2.1, B.2.2.2, pr, ho, m, ids, to, ov, 0, 0, false, s)) (fun i s => s = m.map (wU 22) ++ iW B i) (fun n s _=>by
  show GB k _ B.1 B.1.length B.1.length t B.1 B.2.1 B.2.2.1 B.2.2.2 pr ho m ids to ov 0 0 false s=_;unfold GB;simp) (fun n i s hi hs=>by
  refine⟨_,?_,(show m.map (wU 22)++iW B i++[xT B i]=m.map (wU 22)++iW B (i+1) by rw[yWp,List.append_assoc])⟩;show GB k _ B.1 B.1.length i t B.1 B.2.1 B.2.2.1 B.2.2.2 pr ho m ids to ov 0 0 false s=_;unfold GB;have fa:s.length≤900:=by
   rw[hs,au,List.length_map];unfold iW;grind
  have GA:rp k i 23 [(B.1.getD i ad).1]=some (xT B i):=rfl;have ho3:rp k i 23 [(B.1.getD i (0,0,0)).1]=some (xT B i):=GA;simp only[qC,qU,ao,aa hi,ag,ho3,ae,xQ (show s.length≤1000 by omega),qD hi (by grind)];rw[hs]) (s:=m.map (wU 22)) (show B.1.length<k by omega) (by show _=_++[];simp)
 simp_all
def vI (t:Int)(p:zH):Bool:=decide (t>p.2.2.2.2.2.2)
theorem vDv {k:Nat}(hk:200≤k){m:List zH}(hm:m.length≤100)(pa:Int)(as:List (Int×Int))(cu cl pe t:Int)(B:BT)(pr:AC)(ho:EQ)(ids:AC)(to:Int)(ov:Bool):
  GC k k m m.length 0 pa as cu cl pe t B.1 B.2.1 B.2.2.1 B.2.2.2 pr ho m ids to ov 0 0 false [] []=some (pa,as,cu,cl,pe,t,B.1,B.2.1,B.2.2.1,B.2.2.2,pr,ho,m,ids,to,ov,0,0,false,(m.filter (vI t)).map (wU 21),m.filter (fun p=> !vI t p)):=by
 obtain ⟨s', h1, h2, h3⟩ := yX (L := fun n i (s : List qY × List zH) => GC k n m m.length i pa as cu cl pe t B.1 B.2.1 B.2.2.1 B.2.2.2 pr ho m ids to ov 0 0 false s.1 s.2) (N := m.length) (fun s => (pa, as, cu, cl, pe, t, B.1, B.2.1, B.2.2.1, B.2.2.2, pr, ho, m, ids, to, ov, 0, 0, false, s.1, s.2)) (fun i s => s.1 = ((m.take i).filter (vI t)).map (wU 21) ∧ s.2 = (m.take i).filter (fun p => !vI t p)) (fun n s _=>by
  show GD k _ m m.length m.length pa as cu cl pe t B.1 B.2.1 B.2.2.1 B.2.2.2 pr ho m ids to ov 0 0 false s.1 s.2=_;unfold GD;simp only [qU, ab (Nat.lt_irrefl _), ak]) (fun n i s hi hs=>by
  have tQ:s.1.length≤900:=by
   rw[hs.1,List.length_map];have:=List.length_filter_le (vI t) (m.take i);rw[bQ] at this;omega
  have ng:s.2.length≤900:=by
   rw[hs.2];have:=List.length_filter_le (fun p=> !vI t p) (m.take i);rw[bQ] at this;omega
  show∃s',GD k _ m m.length i pa as cu cl pe t B.1 B.2.1 B.2.2.1 B.2.2.2 pr ho m ids to ov 0 0 false s.1 s.2=_∧_;unfold GD Yp;have GA:rp k (m.getD i pd).2.1 21 [(m.getD i pd).1]=some (wU 21 (m.getD i pd)):=rfl;simp only[pd] at GA;simp only[qC,qU,ao,aa hi,ag,GA,ae,xQ (show s.1.length≤1000 by omega),ow (show s.2.length≤1000 by omega),qD hi (show m.length<9223372036854775808 by omega)];have f1:=BJ (vI t) m i pd hi;have f2:=BJ (fun p=> !vI t p) m i pd hi;cases hb:vI t (m.getD i pd) with
  |true=>
   have bF:decide (t>(m.getD i (0,0,0,0,0,0,0)).2.2.2.2.2.2)=true:=hb;rw[bF];refine⟨(s.1++[wU 21 (m.getD i pd)],s.2),rfl,?_,?_⟩
   ·show s.1++_=_;rw[f1,hb,hs.1];simp
   ·show s.2=_;rw[f2,hb,hs.2];simp
  |false=>
   have bF:decide (t>(m.getD i (0,0,0,0,0,0,0)).2.2.2.2.2.2)=false:=hb;rw[bF];refine⟨(s.1,s.2++[m.getD i pd]),rfl,?_,?_⟩
   ·show s.1=_;rw[f1,hb,hs.1];simp
   ·show s.2++_=_;rw[f2,hb,hs.2];simp) (s:=([],[])) (show m.length<k by omega) ⟨rfl,rfl⟩
 have:=h1.trans (by rw[h2,h3,List.take_length]);exact this
structure vQq (t cl:Int) (B C:BT) (m m':List zH) (ov:Bool) (o:List qY):Prop where
 bk:qP C
 bl:C.1.length=B.1.length
 sub:List.Sublist m' m
 over:ov=decide (t+1=cl)
 none:ov=true→m'=[]
 late:ov=false→∀p∈m',vI (t+1) p=false
 PO:∀p∈m',kX p o=0
 iF:∀p∈m,p∉m'→kX p o=1
 quiet:∀q:zH,(∀p∈m,p.1≠q.1)→kX q o=0
 room:o.length+2*m'.length≤2*m.length+(if ov=true then 6 else 0)
theorem qM.not_in {l m d:List zH}(hd:qM (d++m)){p}(hp:p∈m):∀q∈d,q.1≠p.1:=fun q hq=>(List.pairwise_append.1 hd).2.2 q hq p hp
end Go.Ab.Gi
