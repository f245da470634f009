/- Plain proofs, part 0. -/
import Derived.Test.YthpehdcmpldloaaGreatGiAbC
import Derived.Test.YthpehdcmpldloaaGreatGiXS
set_option linter.unusedVariables false
set_option linter.unusedSimpArgs false
set_option maxRecDepth 100000
set_option linter.unusedSectionVars false
namespace Go.Ab
def aa {p:Prop}[Decidable p](h:p):decide p=true:=decide_eq_true h
def ab {p:Prop}[Decidable p](h:¬p):decide p=false:=decide_eq_false h
def JJ {p:Prop}[Decidable p](h:decide p=true):p:=of_decide_eq_true h
def gd {p:Prop}[Decidable p](h:decide p=false):¬p:=of_decide_eq_false h
def aW {p:Prop}[Decidable p]:(decide p=true)=p:=decide_eq_true_eq
def ae {α β:Type}(a:α)(f:α→Option β):(some a).bind f=f a:=rfl
def ag {α:Type}(a b:α):cond true a b=a:=rfl
def ak {α:Type}(a b:α):cond false a b=b:=rfl
def ao (n:Nat):(n:Int).toNat=n:=rfl
def bb (a b:Bool):((a&&b)=true)=(a=true∧b=true):=Bool.and_eq_true a b
def aA:(!true)=false:=rfl
def bF:(!false)=true:=rfl
end Go.Ab
namespace Go.Ab
def zO {x:Int}(h1:-9223372036854775808≤x)(h2:x<9223372036854775808):zA x=x:=by
 unfold zA IntKind.wrap;simp only[IntKind.bits,IntKind.signed,Bool.true_and];by_cases h:x%2^64≥2^(64-1)
 ·rw[if_pos (by simpa using h)];omega
 ·rw[if_neg (by simpa using h)];omega
def vJ4 (x:Int):-9223372036854775808≤zA x:=by
 unfold zA IntKind.wrap;simp only[IntKind.bits,IntKind.signed,Bool.true_and];by_cases h:x%2^64≥2^(64-1)
 ·rw[if_pos (by simpa using h)];omega
 ·rw[if_neg (by simpa using h)];omega
def vR9 (x:Int):zA x<9223372036854775808:=by
 unfold zA IntKind.wrap;simp only[IntKind.bits,IntKind.signed,Bool.true_and];by_cases h:x%2^64≥2^(64-1)
 ·rw[if_pos (by simpa using h)];omega
 ·rw[if_neg (by simpa using h)];omega
def qD {i N:Nat}(h:i<N)(hN:N<9223372036854775808):zA ((i:Int)+1)=((i+1:Nat):Int):=by
 rw[zO (by omega) (by omega)];rfl
def wfi {n}(h:(Lit.int .i64 n).wf=true):-9223372036854775808≤n∧n<9223372036854775808:=by
 simp[Lit.wf,IntKind.min,IntKind.bits] at h;grind
def qC (i n:Nat):zB (i:Int) n=decide (i<n):=by
 unfold zB;simp
def wX {i:Int}{n:Nat}(h0:0≤i)(h1:i<n):zB i n=true:=by
 unfold zB;simp;omega
def qI {n b}(h:n*b≤140737488355328)(h':n≤140737488355328):zL n b=true:=by
 simp_all
def qU (i n:Nat):decide ((i:Int)<(n:Int))=decide (i<n):=by simp
def sL (i n:Nat):decide ((i:Int)=(n:Int))=decide (i=n):=by
 by_cases h:i=n
 ·subst h;simp
 ·rw[ab h,ab (by omega)]
def qH (p:Nat→Bool):Nat→Nat→Bool
 |0,_=>true
 |c+1,i=>p i&&qH p c (i+1)
def yTe {p:Nat→Bool}:∀{c i:Nat},qH p c i=true↔∀j,i≤j→j<i+c→p j=true
 |0,i=>by simp[qH];intro j h1 h2;omega
 |c+1,i=>by
  simp only[qH,bb,yTe (c:=c)];constructor
  ·rintro⟨h1,h2⟩ j h3 h4
   by_cases e:j=i
   ·subst e;exact h1
   ·exact h2 j (by omega) (by omega)
  ·intro h;exact⟨h i (Nat.le_refl i) (by omega),fun j h1 h2=>h j (by omega) (by omega)⟩
def gE {p c}:qH p c 0=true↔∀j,j<c→p j=true:=by
 rw[yTe];simp
def Wo {X:Type}{L:Nat→Int→Option X}{N:Nat} ok a b (bO:∀n,L (n+1) (N:Int)=some a)
  (aK:∀n i,i<N→L (n+1) (i:Int)=bif ok i then L n ((i+1:Nat):Int) else some b):∀c i n,i+c=N→c<n→L n (i:Int)=some (bif qH ok c i then a else b)
 |0,i,n,h,hn=>by
  obtain⟨n,rfl⟩:∃m,n=m+1:=⟨n-1,by omega⟩;have:i=N:=by omega
  subst this;exact bO n
 |c+1,i,n,h,hn=>by
  obtain⟨n,rfl⟩:∃m,n=m+1:=⟨n-1,by omega⟩;rw[aK n i (by omega)];unfold qH;cases ok i with
  |false=>rfl
  |true=>
   exact Wo ok a b bO aK c (i+1) n (by omega) (by omega)
def mj {X:Type}{L:Nat→Int→Option X}{N:Nat} ok a b (bO:∀n,L (n+1) (N:Int)=some a)
  (aK:∀n i,i<N→L (n+1) (i:Int)=bif ok i then L n ((i+1:Nat):Int) else some b) {n} (hn:N<n):L n 0=some (bif qH ok N 0 then a else b):=
 Wo ok a b bO aK N 0 n (by omega) hn
def vEq {L:Nat→Int→Option (Unit⊕Int)}{N:Nat}(bad:Nat→Bool)(bO:∀n,L (n+1) (N:Int)=some (.inl ()))
  (aK:∀n i,i<N→L (n+1) (i:Int)=bif bad i then some (.inr (i:Int)) else L n ((i+1:Nat):Int)):
  ∀c i n,i+c=N→c<n→(qH (fun j=> !bad j) c i=true∧L n (i:Int)=some (.inl ()))∨∃x:Nat,i≤x∧x<N∧bad x=true∧(∀j,i≤j→j<x→bad j=false)∧qH (fun j=> !bad j) c i=false∧L n (i:Int)=some (.inr (x:Int))
 |0,i,n,h,hn=>by
  obtain⟨n,rfl⟩:∃m,n=m+1:=⟨n-1,by omega⟩;have:i=N:=by omega
  subst this;exact .inl ⟨rfl,bO n⟩
 |c+1,i,n,h,hn=>by
  obtain⟨n,rfl⟩:∃m,n=m+1:=⟨n-1,by omega⟩;rw[aK n i (by omega)];unfold qH;cases hb:bad i with
  |true=>exact .inr ⟨i,Nat.le_refl i,by omega,hb,fun j h1 h2=>absurd h1 (by omega),rfl,rfl⟩
  |false=>
   simp only[ak,bF,Bool.true_and];rcases vEq bad bO aK c (i+1) n (by omega) (by omega) with h1|⟨x,x1,x2,x3,x4,x5,x6⟩
   ·exact .inl h1
   ·refine .inr ⟨x,by omega,x2,x3,fun j h1 h2=>?_,x5,x6⟩;by_cases e:j=i
    ·subst e;exact hb
    ·exact x4 j (by omega) h2
def xn {L:Nat→Int→Option (Unit⊕Int)}{N:Nat}(bad:Nat→Bool)(bO:∀n,L (n+1) (N:Int)=some (.inl ()))
  (aK:∀n i,i<N→L (n+1) (i:Int)=bif bad i then some (.inr (i:Int)) else L n ((i+1:Nat):Int)) {n:Nat} (hn:N<n):
  ∃x:Unit⊕Int,L n 0=some x∧decide ((match x with|.inl _=>(-1:Int)|.inr y=>y)≥0)= !qH (fun j=> !bad j) N 0:=by
 rcases vEq bad bO aK N 0 n (by omega) hn with⟨h1,h2⟩|⟨x,_,_,_,_,h5,h6⟩
 ·exact⟨_,h2,by rw[h1];rfl⟩
 ·exact⟨_,h6,by rw[h5];simp⟩
def yRi {S X:Type}{L:Nat→Int→S→Option X}{N}(e:S→X)(inv:Nat→S→Prop)(bO:∀n s,inv N s→L (n+1) (N:Int) s=some (e s))
  (aK:∀n i s,i<N→inv i s→∃s',L (n+1) (i:Int) s=L n ((i+1:Nat):Int) s'∧inv (i+1) s'):
  ∀c i n s,i+c=N→c<n→inv i s→∃s',L n (i:Int) s=some (e s')∧inv N s'
 |0,i,n,s,h,hn,hs=>by
  obtain⟨n,rfl⟩:∃m,n=m+1:=⟨n-1,by omega⟩;grind
 |c+1,i,n,s,h,hn,hs=>by
  obtain⟨n,rfl⟩:∃m,n=m+1:=⟨n-1,by omega⟩;obtain⟨s',h1,h2⟩:=aK n i s (by omega) hs;rw[h1];exact yRi e inv bO aK c (i+1) n s' (by omega) (by omega) h2
def yW {S X:Type}{L:Nat→Int→S→Option X}{N}(e:S→X)(inv:Nat→S→Prop)(bO:∀n s,inv N s→L (n+1) (N:Int) s=some (e s))
 (aK:∀n i s,i<N→inv i s→∃s',L (n+1) (i:Int) s=L n ((i+1:Nat):Int) s'∧inv (i+1) s') {n s} (hn:N<n) (hs:inv 0 s):
 ∃s',L n 0 s=some (e s')∧inv N s':=yRi e inv bO aK N 0 n s (by omega) hn hs
def zP {α:Type}(g:α→Int):List α→Int
 |[]=>0
 |p::l=>g p+zP g l
def mm {α} g:∀(l m:List α),zP g (l++m)=zP g l+zP g m
 |[],m=>by simp[zP]
 |p::l,m=>by
  show g p+zP g (l++m)=g p+zP g l+zP g m;rw[mm g l m];omega
def Em {α g A}:∀{l:List α},(∀p∈l,-A≤g p∧g p≤A)→-(l.length*A)≤zP g l∧zP g l≤l.length*A
 |[],_=>by simp[zP]
 |p::l,h=>by
  have h1:=h p (by simp);have h2:=Em (l:=l) fun q hq=>h q (by grind)
  have e:((p::l).length:Int)*A=(l.length:Int)*A+A:=by
   rw[List.length_cons,Int.natCast_add,Int.add_mul];simp
  show-_≤g p+zP g l∧g p+zP g l≤_;omega
def xo {α g}:∀{l:List α},(∀p∈l,0≤g p)→0≤zP g l
 |[],_=>by simp[zP]
 |p::l,h=>by
  have h1:=h p (by simp);have h2:=xo (l:=l) fun q hq=>h q (by grind)
  show 0≤g p+zP g l;omega
def yFp {α} g h:∀(l:List α),zP (fun p=>g p+h p) l=zP g l+zP h l
 |[]=>rfl
 |p::l=>by
  show g p+h p+zP _ l=g p+zP g l+(h p+zP h l);rw[yFp g h l];omega
def Wp {α} g h:∀(l:List α),zP (fun p=>g p-h p) l=zP g l-zP h l
 |[]=>rfl
 |p::l=>by
  show g p-h p+zP _ l=g p+zP g l-(h p+zP h l);rw[Wp g h l];omega
def Ov {α g h}:∀{l:List α},(∀p∈l,g p=h p)→zP g l=zP h l
 |[],_=>rfl
 |p::l,e=>by
  show g p+zP g l=h p+zP h l;rw[e p (by simp),Ov fun q hq=>e q (by grind)]
def qJ (g:Nat→Int):Nat→Int
 |0=>0
 |n+1=>qJ g n+g n
def En g h:∀n,qJ (fun j=>g j+h j) n=qJ g n+qJ h n
 |0=>rfl
 |n+1=>by
  show qJ _ n+(g n+h n)=qJ g n+g n+(qJ h n+h n);rw[En g h n];omega
def sM {g h}:∀{n},(∀j,j<n→g j=h j)→qJ g n=qJ h n
 |0,_=>rfl
 |n+1,e=>by
  show qJ g n+g n=qJ h n+h n;rw[sM fun j hj=>e j (by omega),e n (by simp)]
def Bn (c:Int)(t:Nat):∀n,qJ (fun j=>if j=t then c else 0) n=if t<n then c else 0
 |0=>rfl
 |n+1=>by
  show qJ _ n+(if n=t then c else 0)=_;rw[Bn c t n];by_cases h:t<n
  ·rw[if_pos h,if_neg (by omega),if_pos (by omega)];omega
  ·by_cases h':n=t
   ·rw[if_neg h,if_pos h',if_pos (by omega)];omega
   ·rw[if_neg h,if_neg h',if_neg (by omega)];omega
def Wq:∀n,qJ (fun _=>0) n=0
 |0=>rfl
 |n+1=>by show qJ _ n+0=0;rw[Wq n];rfl
def xp {g A}(h:∀j,-A≤g j∧g j≤A):∀n:Nat,-(n*A)≤qJ g n∧qJ g n≤n*A
 |0=>by simp[qJ]
 |n+1=>by
  have h1:=h n;have h2:=xp h n;have e:((n+1:Nat):Int)*A=(n:Int)*A+A:=by
   grind
  show-_≤qJ g n+g n∧qJ g n+g n≤_;omega
def Ow {α}(g:Nat→α→Int) n:∀l:List α,qJ (fun j=>zP (g j) l) n=zP (fun p=>qJ (fun j=>g j p) n) l
 |[]=>Wq n
 |p::l=>by
  show qJ (fun j=>g j p+zP (g j) l) n=qJ (fun j=>g j p) n+zP _ l;rw[En,Ow g n l]
def fa {α:Type}{l:List α}{i d}(h:i<l.length):l.getD i d∈l:=by
 simp_all
def fc {α:Type}(l:List α) i d (h:i<l.length):l.take i++[l.getD i d]=l.take (i+1):=by
 simp_all
def fM {α:Type}(l:List α)(i j:Nat)(a d:α):(l.set i a).getD j d=if i=j∧i<l.length then a else l.getD j d:=by
 rw[List.getD_eq_getElem?_getD,List.getD_eq_getElem?_getD,List.getElem?_set];by_cases h:i=j
 ·subst h;by_cases h':i<l.length<;>simp[h']
 ·simp[h]
def Eo {α:Type}{l m:List α} d (hl:l.length=m.length)(h:∀i,i<l.length→l.getD i d=m.getD i d):l=m:=by
 apply List.ext_getElem hl;simp_all
def vLl m (hm:m≤62) x:yN .i64 x (2^m-1)=x%2^m:=by
 unfold yN tB;have hp:(2:Int)^m=((2^m:Nat):Int):=by rfl
 have hle:2^m≤2^62:=Nat.pow_le_pow_right (by omega) hm;have lV:0<2^m:=by grind
 have e1:(BitVec.ofInt IntKind.i64.bits x&&&BitVec.ofInt IntKind.i64.bits (2^m-1)).toNat=(x%2^m).toNat:=by
  rw[BitVec.toNat_and,BitVec.toNat_ofInt,BitVec.toNat_ofInt];have e2:((2:Int)^m-1)%((2^IntKind.i64.bits:Nat):Int)=((2^m-1:Nat):Int):=by
   rw[hp];have:((2^m:Nat):Int)-1=((2^m-1:Nat):Int):=by omega
   rw[this];apply Int.emod_eq_of_lt (by omega);show((2^m-1:Nat):Int)<((2^64:Nat):Int);omega
  rw[e2,ao,Nat.and_two_pow_sub_one_eq_mod];have hx:0≤x%((2^IntKind.i64.bits:Nat):Int):=by omega
  have e3:x%2^m=(x%((2^IntKind.i64.bits:Nat):Int))%((2^m:Nat):Int):=by
   rw[hp,Int.emod_emod_of_dvd];show((2^m:Nat):Int)∣((2^64:Nat):Int);exact Int.natCast_dvd_natCast.2 (Nat.pow_dvd_pow 2 (by omega))
  grind
 rw[e1];have h0:0≤x%2^m:=by omega
 rw[Int.toNat_of_nonneg h0];exact zO (by omega) (by omega)
end Go.Ab
namespace Go.Ab.Gi
open Go.Ab
def ph (s c:Int):Int:=wM .u64 (shl .u64 s 8) (IntKind.wrap .u64 c)
def sN (b:AC):Int:=zA (b.foldl ph 0)
def iQ:Nat→AC→AC
 |0,_=>[]
 |m+1,b=>sN (b.take 8)::iQ m (b.drop 8)
def Wr:∀m b,(iQ m b).length=m
 |0,_=>rfl
 |m+1,b=>by simp[iQ,Wr m]
def yWb:∀m b,iQ (m+1) b=iQ m b++[sN ((b.drop (8*m)).take 8)]
 |0,b=>by rfl
 |m+1,b=>by
  have h:=yWb m (b.drop 8);rw[show iQ (m+1+1) b=sN (b.take 8)::iQ (m+1) (b.drop 8) from rfl,h];rw[List.drop_drop,show 8+8*m=8*(m+1) by omega];rfl
def yFf {x:AC}{i}(h:i<x.length) s:(x.take (i+1)).foldl ph s=ph ((x.take i).foldl ph s) (x.getD i 0):=by
 rw[←fc x i 0 h,List.foldl_append];rfl
def vVu {k}(hk:9≤k) s0 x r0 (hx:x.length=8):Ep k k s0 0 x 8 0 r0=some (s0,x.foldl ph 0,r0):=by
 obtain ⟨s, h1, h2⟩ := yW (L := fun n i (s : Int) => Ep k n s0 s x 8 i r0) (N := 8) (fun s => (s0, s, r0)) (fun i s => s = (x.take i).foldl ph 0) (fun n s _ => rfl) (fun n i s hi hs=>by
  refine⟨ph s (x.getD i 0),?_,by rw[yFf (by omega),hs]⟩;show Ox k (Ep k n) s0 s x 8 (i:Int) r0=_;unfold Ox;rw[aa (by grind),ag,wX (by omega) (by omega),ag,qD (N:=8) hi (by omega),ao];rfl) (n:=k) (s:=0) (by omega) rfl
 grind
def yI5 {k}(hk:9≤k):∀m n b r,b.length=8*m→m<n→r.length+m≤17592186044416→Er k n b r=some (r++iQ m b)
 |0,n,b,r,hb,hn,_=>by
  obtain⟨n,rfl⟩:∃x,n=x+1:=⟨n-1,by omega⟩;show Es k (Er k n) b r=_;unfold Es;rw[ab (by omega),ak];simp[iQ]
 |m+1,n,b,r,hb,hn,hr=>by
  obtain⟨n,rfl⟩:∃x,n=x+1:=⟨n-1,by omega⟩;show Es k (Er k n) b r=_;unfold Es;have ht:(b.take 8).length=8:=by grind
  have e8:((b.take 8).length:Int)=8:=by omega
  rw[aa (by grind),ag,aa (by grind),ag,e8,vVu hk _ _ _ ht,ae];dsimp only;rw[qI (by omega) (by omega),ag,aa (by grind),ag];rw[yI5 hk m n _ _ (by grind) (by omega) (by grind)];rw[List.append_assoc];rfl
def yE4 (n:Nat):Int.tmod (n:Int) 8=((n%8:Nat):Int):=rfl
def fO (b:AC):AC×Int:=if b.length%8=0 then(iQ (b.length/8) b,0) else([],2)
def yGj {k:Nat}{b:AC}(hk:9≤k)(hb:b.length<8*k)(bE:b.length≤140737488355328):sQ k b=some (fO b):=by
 unfold sQ fO;rw[yE4];by_cases h:b.length%8=0
 ·rw[if_pos h,aa (by omega),yI5 hk (b.length/8) k b [] (by omega) (by omega) (by simp;omega)];rfl
 ·rw[if_neg h,ab (by omega)];rfl
def vBu {k}(hk:9≤k) x (hx:x.length=8):JK k x=some (sN x):=by
 unfold JK;obtain ⟨s, h1, h2⟩ := yW (L := fun n i (s : Int) => JL k n x s i) (N := 8) (fun s => s) (fun i s => s = (x.take i).foldl ph 0) (fun n s _ => rfl) (fun n i s hi hs=>by
  refine⟨ph s (x.getD i 0),?_,by rw[yFf (by omega),hs]⟩;show Oy k (JL k n) x s (i:Int)=_;unfold Oy;rw[aa (by grind),ag,wX (by omega) (by omega),ag,qD (N:=8) hi (by omega),ao];rfl) (n:=k) (s:=0) (by omega) rfl
 rw[List.take_of_length_le (by omega)] at h2;subst h2;rw[h1];rfl
def vDp {k}(hk:9≤k) b M (hM:b.length=8*M)(hb:M≤17592186044416):∀m n j,j+m=M→m<n→Bo k n b ((8*j:Nat):Int) (iQ j b)=some (iQ M b)
 |0,n,j,hj,hn=>by
  obtain⟨n,rfl⟩:∃x,n=x+1:=⟨n-1,by omega⟩;show Et k (Bo k n) b _ _=_;unfold Et;simp_all
 |m+1,n,j,hj,hn=>by
  obtain⟨n,rfl⟩:∃x,n=x+1:=⟨n-1,by omega⟩;show Et k (Bo k n) b _ _=_;unfold Et;have ew:zA (((8*j:Nat):Int)+8)=((8*(j+1):Nat):Int):=by rw[zO (by omega) (by omega)];omega
  rw[ew,aa (by grind),ag,aa (by grind),aa (by grind),
   aa (by grind),ao,ao,show 8*(j+1)-8*j=8 by omega]
  have hl:(qR b (8*j) 8).length=8:=by simp[qR];omega
  rw[show(true&&true&&true)=true from rfl,ag,vBu hk _ hl,ae];rw[qI (by rw[Wr];omega) (by rw[Wr];omega),ag];rw[show iQ j b++[sN (qR b (8*j) 8)]=iQ (j+1) b from(yWb j b).symm];exact vDp hk b M hM hb m n (j+1) (by omega) (by omega)
def yD3 {k:Nat}{b:AC}(hk:9≤k)(hb:b.length<8*k)(bE:b.length≤140737488355328):JM k b=some (fO b):=by
 unfold JM fO;rw[yE4];by_cases h:b.length%8=0
 ·rw[if_pos h,aa (by omega)];have:=vDp hk b (b.length/8) (by omega) (by omega) (b.length/8) k 0 (by omega) (by omega);show(Bo k k b ((8*0:Nat):Int) (iQ 0 b)).bind _=_;rw[this];rfl
 ·rw[if_neg h,ab (by omega)];rfl
def yT0:AC:=[(-1),6,1,2,2,2,1,1,2,0,2,2,2,0,0,0,1,5,4,1,1,1,1,1]
def vF (x:Int):Int:=if 0≤x∧x<24 then yT0.getD x.toNat 0 else-1
def Ws (k:Nat)(x:Int):Bp k x=some (vF x):=by
 unfold Bp vF;by_cases h:x<0
 ·rw[aa h,if_neg (by omega)];rfl
 ·rw[ab h,ak];by_cases h2:x≥24
  ·rw[aa h2,if_neg (by omega)];rfl
  ·rw[ab h2,ak,wX (by omega) (by omega),ag,if_pos (by omega)];rfl
def Oz (k:Nat)(x:Int):uu k x=some (vF x):=by
 by_cases h:0≤x∧x<24
 ·obtain⟨n,rfl⟩:∃n:Nat,x=n:=⟨x.toNat,by omega⟩;have hn:n<24:=by omega
  have:∀n:Nat,n<24→uu 0 (n:Int)=some (vF (n:Int)):=by decide
  exact this n hn
 ·have e:vF x= -1:=by unfold vF;rw[if_neg h]
  rw[e];unfold uu;have ne:∀c:Int,0≤c→c<24→decide (x=c)=false:=fun c h1 h2=>ab (by omega)
  rw[ne 9 (by omega) (by omega),ne 13 (by omega) (by omega),ne 14 (by omega) (by omega),ne 15 (by omega) (by omega),ne 2 (by omega) (by omega),ne 6 (by omega) (by omega),ne 7 (by omega) (by omega),ne 16 (by omega) (by omega),
   ne 19 (by omega) (by omega),ne 20 (by omega) (by omega),ne 21 (by omega) (by omega),ne 22 (by omega) (by omega),ne 23 (by omega) (by omega),ne 3 (by omega) (by omega),ne 4 (by omega) (by omega),ne 5 (by omega) (by omega),ne 8 (by omega) (by omega),
   ne 10 (by omega) (by omega),ne 11 (by omega) (by omega),ne 12 (by omega) (by omega),ne 18 (by omega) (by omega),ne 17 (by omega) (by omega),ne 1 (by omega) (by omega)]
  rfl
def kQ (b:AC):zC×Int:=
 if b=[] then((0,0,0,0,0,0,0),2)
 else if(fO (b.drop 1)).2≠0∨((fO (b.drop 1)).1.length:Int)≠vF (zA (b.getD 0 0)) then((0,0,0,0,0,0,0),2)
 else((zA (b.getD 0 0),(fO (b.drop 1)).1.getD 0 0,(fO (b.drop 1)).1.getD 1 0,(fO (b.drop 1)).1.getD 2 0,(fO (b.drop 1)).1.getD 3 0,(fO (b.drop 1)).1.getD 4 0,(fO (b.drop 1)).1.getD 5 0),0)
def vHx (l:AC)(i:Nat):(bif Nat.blt i l.length then l.getD i 0 else 0)=l.getD i 0:=by
 by_cases h:i<l.length
 ·rw[show Nat.blt i l.length=true by simp[Nat.blt_eq,h]];rfl
 ·rw[show Nat.blt i l.length=false by
   cases e:Nat.blt i l.length with
   |false=>rfl
   |true=>rw[Nat.blt_eq] at e;omega]
  rw[List.getD_eq_getElem?_getD,List.getElem?_eq_none (by omega)];rfl
def yEq {k:Nat}{b:AC}(hk:9≤k)(hb:b.length≤8*k)(bE:b.length≤140737488355328):uv k b=some (kQ b):=by
 unfold uv kQ;cases b with
 |nil=>rfl
 |cons c l=>
  rw[if_neg (by simp)];have e0:((c::l).length:Int)=(l.length:Int)+1:=by simp
  rw[ab (by omega),ak,aa (show(1:Int)≤((c::l).length:Int) by omega),ag,yGj hk (by simp at hb⊢;omega) (by simp at bE⊢;omega),ae];by_cases h:(fO (List.drop 1 (c::l))).2=0
  ·rw[aa h,wX (by omega) (by simp),Oz];simp only[aA,ak,ag,ae];by_cases h2:((fO (List.drop 1 (c::l))).1.length:Int)=vF (zA ((c::l).getD 0 0))
   ·rw[aa h2,if_neg (fun hh=>hh.elim (fun e=>e h) fun e=>e h2)];simp only[aA,ak,vHx]
   ·rw[ab h2,if_pos (.inr h2)];rfl
  ·rw[ab h,if_pos (.inl h)];rfl
def OB (x:Int):vF x≤6:=by
 unfold vF;split
 ·rename_i h;obtain⟨n,rfl⟩:∃n:Nat,x=n:=⟨x.toNat,by omega⟩;have:∀n:Nat,n<24→yT0.getD n 0≤6:=by decide
  exact this n (by omega)
 ·omega
def Wt k m (b0:zC) x l (hl:l.length≤6):
  OC k (m+7) 0 b0 (x,0,0,0,0,0,0) l=some (b0,(x,l.getD 0 0,l.getD 1 0,l.getD 2 0,l.getD 3 0,l.getD 4 0,l.getD 5 0)):=by
 match l,hl with
 |[],_
  |[_],_
  |[_,_],_
  |[_,_,_],_
  |[_,_,_,_],_
  |[_,_,_,_,_],_
  |[_,_,_,_,_,_],_=>rfl
def vOb {k:Nat}{b:AC}(hk:9≤k)(hb:b.length≤8*k)(bE:b.length≤140737488355328):JN k b=some (kQ b):=by
 unfold JN kQ;cases b with
 |nil=>rfl
 |cons c l=>
  rw[if_neg (by simp)];have e0:((c::l).length:Int)=(l.length:Int)+1:=by simp
  rw[ab (by omega),ak,wX (by omega) (by simp),ag,aa (show(1:Int)≤((c::l).length:Int) by omega),ag,yD3 hk (by simp at hb⊢;omega) (by simp at bE⊢;omega),ae];by_cases h:(fO (List.drop 1 (c::l))).2=0
  ·rw[aa h,Ws];simp only[aA,ak,ae];by_cases h2:((fO (List.drop 1 (c::l))).1.length:Int)=vF (zA ((c::l).getD 0 0))
   ·rw[aa h2,if_neg (fun hh=>hh.elim (fun e=>e h) fun e=>e h2)];have hm:=OB (zA ((c::l).getD 0 0));obtain⟨m,rfl⟩:∃m,k=m+7:=⟨k-7,by omega⟩;simp only[aA,ak];rw[Wt _ _ _ _ _ (by omega)];rfl
   ·rw[ab h2,if_pos (.inr h2)];rfl
  ·rw[ab h,if_pos (.inl h)];rfl
abbrev aeh:Type:=Int×List (Int×Int)×Int×Int×Int
abbrev Eu:Type:=Int×List (Int×Int×Int)×EQ×AC×EQ×AC×EQ×List (Int×Int×Int×Int×Int×Int×Int)×AC×Int×Bool
abbrev xq:Type:=Int×List (Int×Int)×Int×Int×Int×Int×List (Int×Int×Int)×EQ×AC×EQ×AC×EQ×List (Int×Int×Int×Int×Int×Int×Int)×AC×Int×Bool×Int×Bool
def d0:oI:=(0,0,[],0,0)
abbrev dkW (ro:Int)(x:AC)(sx:Int)(y:AC)(sy cA cK op:Int):vX:=(ro,x,sx,y,sy,cA,cK,false,false,op)
def vH (n:Int)(i:Nat):Int:=IntKind.wrap .u8 (shr .i64 n (8*(i:Int)))
def yB (n:Int):AC:=[vH n 7,vH n 6,vH n 5,vH n 4,vH n 3,vH n 2,vH n 1,vH n 0]
def yM (l:AC):AC:=l.flatMap yB
def iR:∀l,(yM l).length=8*l.length
 |[]=>rfl
 |n::l=>by
  have:=iR l;simp[yM] at this⊢;rw[this];simp[yB];omega
def vUb {k n} v (i:Nat)(hi:i≤7) aQ bA bB r (hr:r.length≤1000000000):
  xr k (n+1) v (i:Int) aQ bA bB r=xr k n v ((i:Int)-1) aQ bA bB (r++[vH v i]):=by
 show OD k (xr k n) v (i:Int) aQ bA bB r=_;unfold OD;have e8:zA (8*(i:Int))=8*(i:Int):=zO (by omega) (by omega);rw[aa (by simp),ag,e8,ab (by omega),bF,ag,qI (by omega) (by omega),ag,zO (by omega) (by omega)];rfl
def vWl {k}(hk:9≤k) v aQ bA bB r (hr:r.length≤100000000):
  xr k k v 7 aQ bA bB r=some (aQ,bA,bB,r++yB v):=by
 have gen:∀m,xr k (m+9) v 7 aQ bA bB r=some (aQ,bA,bB,r++yB v):=fun m=>by
  have h:=fun n i hi r' sf=>vUb (k:=k) (n:=n) v i hi aQ bA bB r' sf
  have h7:=h (m+8) 7 (by omega) r (by omega);have h6:=h (m+7) 6 (by omega) (r++[vH v 7]) (by grind);have h5:=h (m+6) 5 (by omega) ((r++[vH v 7])++[vH v 6]) (by grind);have h4:=h (m+5) 4 (by omega) (((r++[vH v 7])++[vH v 6])++[vH v 5]) (by grind);have h3:=h (m+4) 3 (by omega) ((((r++[vH v 7])++[vH v 6])++[vH v 5])++[vH v 4]) (by grind);have h2:=h (m+3) 2 (by omega) (((((r++[vH v 7])++[vH v 6])++[vH v 5])++[vH v 4])++[vH v 3]) (by grind);have h1:=h (m+2) 1 (by omega) ((((((r++[vH v 7])++[vH v 6])++[vH v 5])++[vH v 4])++[vH v 3])++[vH v 2]) (by simp;omega);have h0:=h (m+1) 0 (by omega) (((((((r++[vH v 7])++[vH v 6])++[vH v 5])++[vH v 4])++[vH v 3])++[vH v 2])++[vH v 1]) (by simp;omega);refine(h7.trans (h6.trans (h5.trans (h4.trans (h3.trans (h2.trans (h1.trans (h0.trans ?_))))))));show some (aQ,bA,bB,_)=_;simp only[List.append_assoc,List.cons_append,List.nil_append];rfl
 obtain⟨m,rfl⟩:∃m,k=m+9:=⟨k-9,by omega⟩;exact gen m
def yC3 {k}(hk:9≤k) l (hl:l.length≤1000000):∀(m n i:Nat),i+m=l.length→m<n→Br k n l (l.length:Int) (i:Int) (yM (l.take i))=some (yM l)
 |0,n,i,hi,hn=>by
  obtain⟨n,rfl⟩:∃x,n=x+1:=⟨n-1,by omega⟩;show Ev k (Br k n) l _ _ _=_;unfold Ev;simp_all
 |m+1,n,i,hi,hn=>by
  obtain⟨n,rfl⟩:∃x,n=x+1:=⟨n-1,by omega⟩;show Ev k (Br k n) l _ _ _=_;unfold Ev;have bm:i<l.length:=by omega
  rw[aa (by grind),ag,wX (by omega) (by omega),ag,ao,
   vWl hk _ _ _ _ _ (by rw[iR,List.length_take];omega),ae,qD (N:=l.length) bm (by omega)]
  rw[show yM (l.take i)++yB (l.getD i 0)=yM (l.take (i+1)) by
   rw[←fc l i 0 bm];simp[yM]]
  exact yC3 hk l hl m n (i+1) (by omega) (by omega)
def JO {k}(hk:9≤k) l (hl:l.length≤1000000)(pR:l.length<k):xu k l=some (yM l):=by
 unfold xu;have h8:zA (8*(l.length:Int))=((8*l.length:Nat):Int):=by rw[zO (by omega) (by omega)];omega
 rw[h8];have hm:qb 0 ((8*l.length:Nat):Int) 1=true:=by
  grind
 rw[hm,ag];have:=yC3 hk l hl l.length k 0 (by omega) pR;show(Br k k l (l.length:Int) ((0:Nat):Int) (yM (l.take 0))).bind _=_;simp_all
def qV (l:AC):AC:=yB (l.length:Int)++yM l
def vNi {k}(hk:9≤k) l (hl:l.length≤1000000)(pR:l.length<k):OE k l=some (qV l):=by
 unfold OE;rw[JO hk [(l.length:Int)] (by simp) (by grind),ae,JO hk l hl pR,ae];rw[qI (by rw[iR,iR];grind) (by rw[iR,iR];grind)];rfl
def wI (b:AC):AC:=[IntKind.wrap .u8 (shr .i64 (b.length:Int) 8),IntKind.wrap .u8 (b.length:Int)]++b
def yLk k b:JP k b=some (if b.length≤60000 then(wI b,true) else([],false)):=by
 unfold JP;by_cases h:b.length≤60000
 ·rw[ab (by omega),ak,qI (by omega) (by omega),if_pos h];rfl
 grind
def yPw (x:Nat)(hx:x<18446744073709551616):(BitVec.ofInt 64 (x:Int)).toNat=x:=by
 rw[BitVec.ofInt_natCast,BitVec.toNat_ofNat];exact Nat.mod_eq_of_lt hx
def yDc (a c:Nat)(hc:c<256)(ha:a*256+c<18446744073709551616):(BitVec.ofInt 64 ((a*256:Nat):Int)|||BitVec.ofInt 64 (c:Int)).toNat=a*256+c:=by
 rw[BitVec.toNat_or,yPw _ (by omega),yPw _ (by omega)];have:=Nat.two_pow_add_eq_or_of_lt (b:=c) (i:=8) hc a;rw[show(2:Nat)^8*a=a*256 by omega] at this;exact this.symm
def OF (x:Int):IntKind.wrap .u8 x=x%256:=by
 unfold IntKind.wrap;simp[IntKind.bits,IntKind.signed]
def Ew (x:Int):IntKind.wrap .u64 x=x%18446744073709551616:=by
 unfold IntKind.wrap;simp[IntKind.bits,IntKind.signed]
def vW5 {s c:Int}(hs:0≤s)(hc:0≤c∧c<256):ph s c=(s*256+c)%18446744073709551616:=by
 unfold ph;have e1:shl .u64 s 8=(s*256)%18446744073709551616:=Ew _;rw[e1,Ew c];obtain⟨a,ha⟩:∃a:Nat,s%72057594037927936=a:=⟨(s%72057594037927936).toNat,by omega⟩;obtain⟨d,rfl⟩:∃d:Nat,c=d:=⟨c.toNat,by omega⟩;have e2:(s*256)%18446744073709551616=((a*256:Nat):Int):=by omega
 have e3:(d:Int)%18446744073709551616=(d:Int):=by omega
 rw[e2,e3];show IntKind.wrap .u64 (((BitVec.ofInt 64 ((a*256:Nat):Int)|||BitVec.ofInt 64 (d:Int)).toNat:Nat):Int)=_;rw[yDc a d (by omega) (by omega),Ew];omega
def yEv (n:Int)(i:Nat)(hi:i≤7):vH n i=(n/2^(8*i))%256:=by
 unfold vH;rw[OF]
 congr 1
 show n.fdiv (2^(min (8*(i:Int)).toNat 64))=_;rw[show min (8*(i:Int)).toNat 64=8*i by omega];exact Int.fdiv_eq_ediv_of_nonneg _ (Int.le_of_lt (Int.pow_pos (by decide)))
def yJ9 {n:Int}(h1:-9223372036854775808≤n)(h2:n<9223372036854775808):sN (yB n)=n:=by
 have o:=fun i (hi:i≤7)=>yEv n i hi
 have b:∀i,i≤7→0≤vH n i∧vH n i<256:=fun i hi=>by rw[o i hi];omega
 have p:∀s:Int,0≤s→∀i,i≤7→ph s (vH n i)=(s*256+vH n i)%18446744073709551616:=fun s hs i hi=>vW5 hs (b i hi)
 unfold sN yB;simp only[List.foldl_cons,List.foldl_nil];rw[p 0 (by omega) 7 (by omega),p _ (by omega) 6 (by omega),p _ (by omega) 5 (by omega),p _ (by omega) 4 (by omega),p _ (by omega) 3 (by omega),p _ (by omega) 2 (by omega),p _ (by omega) 1 (by omega),p _ (by omega) 0 (by omega)];rw[o 7 (by omega),o 6 (by omega),o 5 (by omega),o 4 (by omega),o 3 (by omega),o 2 (by omega),o 1 (by omega),o 0 (by omega)];simp only[Nat.reduceMul,Int.reducePow];unfold zA IntKind.wrap;simp only[IntKind.bits,IntKind.signed,Bool.true_and];simp;split<;>omega
def qA (l:EQ):AC:=l.flatMap qV
def fe l:(qV l).length=8*(l.length+1):=by
 simp[qV,iR];show 8+_=_;omega
def yOp {l:EQ}{i}(h:i<l.length):qA (l.take i)++qV (l.getD i [])=qA (l.take (i+1)):=by
 rw[←fc l i [] h];simp[qA]
structure wZ (l:EQ):Prop where
 n:l.length≤900
 r:∀x∈l,x.length≤900
def JQ {l}(h:∀x∈l,x.length≤900):(qA l).length≤8000*l.length:=by
 induction l with
 |nil=>simp[qA]
 |cons x l ih=>
  have h1:=ih (by grind);have h2:=h x (by simp);simp[qA,fe] at h1⊢;omega
def vLt {k}(hk:1000≤k){l}(h:wZ l):JR k l=some (qA l):=by
 have hn:=h.n;unfold JR;obtain ⟨s, h1, h2⟩ := yW (L := fun n i (s : AC) => Ey k n l (l.length : Int) i s) (N := l.length) (fun s => s) (fun i s => s = qA (l.take i)) (fun n s _=>by
  show Ez k (Ey k n) l _ _ s=_;unfold Ez;simp) (fun n i s hi hs=>by
  refine⟨s++qV (l.getD i []),?_,by rw[hs,yOp hi]⟩;show Ez k (Ey k n) l _ (i:Int) s=_;unfold Ez;have hr:=h.r _ (fa (d:=[]) hi);have tY:s.length≤8000*1000:=by
   have:=JQ (l:=l.take i) fun x hx=>h.r x (by grind)
   grind
  rw[aa (by grind),ag,wX (by omega) (by omega),ag,ao,vNi (by omega) _ (by omega) (by omega),ae,
   qI (by rw[fe];omega) (by rw[fe];omega),ag,qD (N:=l.length) hi (by omega)]) (n:=k) (s:=[]) (by omega) rfl
 simp_all
def wL (a:Int×Int×Int):AC:=[a.1,a.2.1,a.2.2]
def vK (p:Int×Int×Int×Int×Int×Int×Int):AC:=[p.1,p.2.1,p.2.2.1,p.2.2.2.1,p.2.2.2.2.1,p.2.2.2.2.2.1,p.2.2.2.2.2.2]
def wF (s:Eu):EQ:=
 (((((([[s.1,s.2.2.2.2.2.2.2.2.2.1,bif s.2.2.2.2.2.2.2.2.2.2 then 1 else 0,(s.2.1.length:Int),(s.2.2.1.length:Int),(s.2.2.2.1.length:Int),(s.2.2.2.2.1.length:Int),(s.2.2.2.2.2.2.1.length:Int),(s.2.2.2.2.2.2.2.1.length:Int)]]++
  s.2.1.map wL)++s.2.2.1)++[s.2.2.2.1])++s.2.2.2.2.1)++[s.2.2.2.2.2.1])++s.2.2.2.2.2.2.1)++s.2.2.2.2.2.2.2.1.map vK++[s.2.2.2.2.2.2.2.2.1]
def OG {α β:Type}(f:α→β) d {l:List α}{i}(h:i<l.length):(l.take i).map f++[f (l.getD i d)]=(l.take (i+1)).map f:=by
 rw[←fc l i d h];simp
def vIw {k}{l:List (Int×Int×Int)}(hl:l.length≤900)(hk:1000≤k)(s:Eu)(b) r (hr:r.length≤1000000):Bt k k l (l.length:Int) 0 s b r=some (s,b,r++l.map wL):=by
 obtain ⟨t, h1, h2⟩ := yW (L := fun n i (t : EQ) => Bt k n l (l.length : Int) i s b t) (N := l.length) (fun t => (s, b, t)) (fun i t => t = r ++ (l.take i).map wL) (fun n t _=>by
  show EA k (Bt k n) l _ _ s b t=_;unfold EA;simp) (fun n i t hi ht=>by
  refine⟨t++[wL (l.getD i (0,0,0))],?_,by rw[ht,List.append_assoc,OG wL (0,0,0) hi]⟩;show EA k (Bt k n) l _ (i:Int) s b t=_;unfold EA;have:t.length≤1001000:=by grind
  rw[aa (by grind),ag,wX (by omega) (by omega),ag,qI (by omega) (by omega),ag,qD (N:=l.length) hi (by omega)];rfl) (n:=k) (s:=r) (by omega) (by simp)
 simp_all
def vGt {k}{l:List (Int×Int×Int×Int×Int×Int×Int)}(hl:l.length≤900)(hk:1000≤k)(s:Eu) r (hr:r.length≤1000000):Bu k k l (l.length:Int) 0 s r=some (s,r++l.map vK):=by
 obtain ⟨t, h1, h2⟩ := yW (L := fun n i (t : EQ) => Bu k n l (l.length : Int) i s t) (N := l.length) (fun t => (s, t)) (fun i t => t = r ++ (l.take i).map vK) (fun n t _=>by
  show EB k (Bu k n) l _ _ s t=_;unfold EB;simp) (fun n i t hi ht=>by
  refine⟨t++[vK (l.getD i (0,0,0,0,0,0,0))],?_,by rw[ht,List.append_assoc,OG vK (0,0,0,0,0,0,0) hi]⟩;show EB k (Bu k n) l _ (i:Int) s t=_;unfold EB;have:t.length≤1001000:=by grind
  rw[aa (by grind),ag,wX (by omega) (by omega),ag,qI (by omega) (by omega),ag,qD (N:=l.length) hi (by omega)];rfl) (n:=k) (s:=r) (by omega) (by simp)
 simp_all
def yS1 {k}(hk:1000≤k){s}(h:wZ (wF s)):mn k s=some (qA (wF s)):=by
 have hn:=h.n;simp only[wF,List.length_append,List.length_map] at hn;unfold mn;rw[show OH k s.2.2.2.2.2.2.2.2.2.2=some (bif s.2.2.2.2.2.2.2.2.2.2 then 1 else 0) by unfold OH;grind,ae];rw[vIw (by omega) hk _ _ _ (by simp),ae];dsimp only;rw[qI (by grind) (by grind),ag,qI (by grind) (by grind),ag,qI (by simp;omega) (by grind),ag,qI (by simp;omega) (by simp;omega),ag,
  qI (by simp;omega) (by simp;omega),ag,vGt (by omega) hk _ _ (by simp;omega),ae]
 dsimp only;rw[qI (by simp;omega) (by simp;omega),ag];show(JR k (wF s)).bind (fun x1=>some x1)=_;rw[vLt hk h];rfl
structure Wu (D:vX):Prop where
 ad5:D.2.2.2.2.2.2.2.1=false
 down:D.2.2.2.2.2.2.2.2.1=false
 room:0≤D.1∧D.1≤200000
 x:(D.2.1.length:Int)≤D.1
 y:(D.2.2.2.1.length:Int)≤D.1
def vA (D:vX)(i:Int):AC:=if i=0 then D.2.1 else D.2.2.2.1
def Wu.as {D}(h:Wu D):∃ro x sx y sy cA cK op,D=dkW ro x sx y sy cA cK op∧0≤ro∧ro≤200000∧(x.length:Int)≤ro∧(y.length:Int)≤ro:=by
 obtain⟨ro,x,sx,y,sy,cA,cK,ar,dn,op⟩:=D;obtain⟨h1,h2,h3,h4,h5⟩:=h;subst h1;subst h2;grind
structure aej (L:fS):Prop where
 side:L.1=0∨L.1=1
 gen:1≤L.2.1∧L.2.1≤4611686018427387904
 rows:0≤L.2.2.1∧L.2.2.1≤1000000
 stale:L.2.2.2=false
def uw b:(wI b).length=b.length+2:=by rfl
def pj (l:AC):Prop:=∀x∈l,-9223372036854775808≤x∧x<9223372036854775808
def yNu:∀{l},pj l→iQ l.length (yM l)=l
 |[],_=>rfl
 |n::l,h=>by
  have h1:=h n (by simp);have e:yM (n::l)=yB n++yM l:=by rfl
  show sN ((yB n++yM l).take 8)::iQ l.length ((yB n++yM l).drop 8)=_;have t:(yB n++yM l).take 8=yB n:=rfl;have d:(yB n++yM l).drop 8=yM l:=rfl;rw[t,d,yJ9 h1.1 h1.2,yNu fun x hx=>h x (by grind)]
def Wv {l}(h:pj l):fO (yM l)=(l,0):=by
 unfold fO;have:=iR l;rw[if_pos (by omega),show(yM l).length/8=l.length by omega,yNu h]
def yFg {k}(hk:9≤k){l}(hl:l.length<k)(hm:l.length≤1000000)(h:pj l):sQ k (yM l)=some (l,0):=by
 have:=iR l;rw[yGj hk (by omega) (by omega),Wv h]
def Ww {k}(hk:9≤k){n}(h:-9223372036854775808≤n∧n<9223372036854775808):sQ k (yB n)=some ([n],0):=by
 have e:yB n=yM [n]:=by rfl
 rw[e];exact yFg hk (by grind) (by simp) fun x hx=>by simp_all
def Wx {k}(hk:9≤k){l}(hl:l.length<k)(hm:l.length≤100000)(h:pj l) b (hb:b.length≤1000000):OI k (qV l++b)=some (l,b,true):=by
 have qn:=iR l;have hlen:(qV l++b).length=8+8*l.length+b.length:=by
  rw[List.length_append,qV,List.length_append,qn];rfl
 have t:(qV l++b).take 8=yB (l.length:Int):=rfl;have d:(qV l++b).drop 8=yM l++b:=rfl;unfold OI;rw[ab (by omega),ak,aa (by omega),ag,t,Ww hk (by omega),ae,d];have pn:(yM l++b).length=8*l.length+b.length:=by simp_all
 have w1:zA (Int.tdiv ((yM l++b).length:Int) 8)=((l.length+b.length/8:Nat):Int):=by
  rw[pn];have:Int.tdiv ((8*l.length+b.length:Nat):Int) 8=(((8*l.length+b.length)/8:Nat):Int):=rfl;rw[this,zO (by omega) (by omega)];omega
 have w2:zA (8*(l.length:Int))=((8*l.length:Nat):Int):=by rw[zO (by omega) (by omega)];omega
 have bd:zB 0 [(l.length:Int)].length=true:=rfl;simp only[List.getD_cons_zero];rw[ab (by simp),w1,w2,ab (by grind),aa (by grind),
  aa (by grind),ao,show List.take (8*l.length) (yM l++b)=yM l from by grind,show List.drop (8*l.length) (yM l++b)=b from by grind]
 rw[yFg hk hl (by omega) h];rfl
def Bv (b:AC):Int:=wM .i64 (shl .i64 (zA (b.getD 0 0)) 8) (zA (b.getD 1 0))
def Cut (b:AC):Prop:=b.length<2∨Bv b>60000∨Bv b>(b.length:Int)-2
def jS (l:EQ):AC:=l.flatMap wI
def yYn {r}(hr:r.length≤60000){b}(h0:b.getD 0 0=(wI r).getD 0 0)(h1:b.getD 1 0=(wI r).getD 1 0):Bv b=(r.length:Int):=by
 unfold Bv;rw[h0,h1];have e0:(wI r).getD 0 0=((r.length/256:Nat):Int):=by
  show IntKind.wrap .u8 (shr .i64 (r.length:Int) 8)=_;rw[OF];have:shr .i64 (r.length:Int) 8=((r.length/256:Nat):Int):=by
   show(r.length:Int).fdiv (2^8)=_;grind
  omega
 have e1:(wI r).getD 1 0=((r.length%256:Nat):Int):=by
  rfl
 rw[e0,e1,zO (by omega) (by omega),zO (by omega) (by omega)];have e2:shl .i64 ((r.length/256:Nat):Int) 8=((r.length/256*256:Nat):Int):=by
  show zA (((r.length/256:Nat):Int)*2^8)=_;exact zO (by omega) (by omega)
 rw[e2];show IntKind.wrap .i64 (((BitVec.ofInt 64 ((r.length/256*256:Nat):Int)|||BitVec.ofInt 64 ((r.length%256:Nat):Int)).toNat:Nat):Int)=_;rw[yDc _ _ (by omega) (by omega)];have:=zO (x:=((r.length/256*256+r.length%256:Nat):Int)) (by omega) (by omega);grind
def vEj {r:AC}(hr:r.length≤60000){j:Nat}(hj:j<r.length+2):Cut ((wI r).take j):=by
 have hl:=uw r;by_cases h:j<2
 ·left;rw[List.length_take];omega
 ·right;right;have g:∀i,i<2→((wI r).take j).getD i 0=(wI r).getD i 0:=fun i hi=>by
   rw[List.getD_eq_getElem?_getD,List.getD_eq_getElem?_getD,List.getElem?_take_of_lt (by omega)]
  rw[yYn hr (g 0 (by omega)) (g 1 (by omega)),List.length_take];omega
def JS:Cut []:=.inl (by decide)
def vEb {k:Nat}{t:AC}(ht:Cut t)(pU:t.length≤1000000):∀(l:EQ) (n:Nat) (r:EQ),(∀x∈l,x.length≤60000)→l.length<n→(jS l).length≤1000000→r.length+l.length≤1000000→EC k n (jS l++t) r=some (t,r++l)
 |[],n,r,_,hn,_,_=>by
  obtain⟨n,rfl⟩:∃m,n=m+1:=⟨n-1,by omega⟩;rw[List.append_nil];show ED k (EC k n) t r=_;unfold ED;by_cases h2:t.length<2
  ·rw[ab (by omega)];rfl
  ·rw[aa (by omega),wX (by omega) (by omega),wX (by omega) (by omega)];simp only[ag];have e:wM .i64 (shl .i64 (zA (t.getD 0 0)) 8) (zA (t.getD 1 0))=Bv t:=rfl;rw[e,zO (x:=(t.length:Int)-2) (by omega) (by omega)];by_cases h3:Bv t>60000
   ·rw[aa h3];rfl
   ·rw[ab h3,aa (show Bv t>(t.length:Int)-2 by rcases ht with h|h|h;exact absurd h h2;exact absurd h h3;exact h)];rfl
 |x::l,n,r,hl,hn,hb,hr=>by
  obtain⟨n,rfl⟩:∃m,n=m+1:=⟨n-1,by omega⟩;have hx:=hl x (List.mem_cons_self ..);have ex:jS (x::l)=wI x++jS l:=by simp[jS]
  have sd:=uw x;rw[ex,List.length_append] at hb;have ih:=vEb (k:=k) ht pU l n (r++[x]) (fun y hy=>hl y (List.mem_cons_of_mem _ hy)) (by simp at hn;omega) (by omega) (by rw[List.length_append];simp at hr⊢;omega);rw[ex,List.append_assoc];obtain⟨B,hB⟩:∃B,jS l++t=B:=⟨_,rfl⟩;rw[hB] at ih⊢;have hBl:B.length≤2000000:=by rw[←hB,List.length_append];omega
  have hlen:(wI x++B).length=x.length+2+B.length:=by rw[List.length_append,sd]
  show ED k (EC k n) (wI x++B) r=_;unfold ED;rw[aa (by omega),wX (by omega) (by omega),wX (by omega) (by omega)];simp only[ag];have e:wM .i64 (shl .i64 (zA ((wI x++B).getD 0 0)) 8) (zA ((wI x++B).getD 1 0))=(x.length:Int):=yYn hx rfl rfl;have hs:qR (wI x++B) 2 (x.length+2-2)=x:=by
   unfold qR;show List.take (x.length+2-2) (x++B)=x;exact List.take_left' (by omega)
  have hd:List.drop (x.length+2) (wI x++B)=B:=List.drop_left' sd;have w2:zA (2+(x.length:Int))=((x.length+2:Nat):Int):=by rw[zO (by omega) (by omega)];omega
  rw[e,w2,zO (x:=((wI x++B).length:Int)-2) (by omega) (by omega),ab (show¬(x.length:Int)>60000 by omega),ab (show¬(x.length:Int)>((wI x++B).length:Int)-2 by omega),ao,hs,hd,
   aa (show(2:Int)≤((x.length+2:Nat):Int) by omega),aa (show(0:Int)≤((x.length+2:Nat):Int) by omega),aa (show((x.length+2:Nat):Int)≤((wI x++B).length:Int) by omega),qI (by omega) (by omega),qI (by simp at hr;omega) (by simp at hr;omega)]
  simp only[ak,Bool.and_self,ag];rw[ih,List.append_assoc];rfl
def ySj {k t}(ht:Cut t)(pU:t.length≤1000000){l}(hl:∀x∈l,x.length≤60000)(hn:l.length<k)(hm:l.length≤1000000)(hb:(jS l).length≤1000000):OJ k (jS l++t)=some (l,(t.length:Int)):=by
 unfold OJ;rw[vEb ht pU l k [] hl hn hb (by simp_all)];rfl
abbrev yA:=Int×Int×Int
abbrev zH:=Int×Int×Int×Int×Int×Int×Int
def fg (a:yA):Bool:=decide (a.1>-4611686018427387904)&&(decide (a.1<4611686018427387904)&&(decide (a.2.1≥0)&&(decide (a.2.1≤2305843009213693952)&&(decide (a.2.2≥0)&&decide (a.2.2≤2305843009213693952)))))
def wV (n:Int):Bool:=decide (n≥-1)&&decide (n≤2305843009213693952)
def gW (n:Int):Bool:=decide (n>-72057594037927936)&&decide (n<72057594037927936)
def cell (m:EQ)(i j:Nat):Int:=(m.getD i []).getD j 0
def nn (n:Nat)(m:EQ):Bool:=decide (m.length=n)&&qH (fun i=>decide ((m.getD i []).length=n)) n 0
def qo (p:Int→Bool)(n:Nat)(m:EQ):Bool:=qH (fun i=>qH (fun j=>p (cell m i j)) n 0) n 0
def xv (n:Nat)(m:EQ):Bool:=qH (fun i=>qH (fun j=>decide (cell m i j=zA (0-cell m j i))) n 0) n 0
def np (xw:List yA)(bil:EQ)(mul:AC)(pos:EQ):Bool:=
 let n:=xw.length
 decide (1≤n)&&(decide (n≤6)&&(nn n bil&&(nn n pos&&(decide (mul.length=n)&&(qH (fun i=>fg (xw.getD i (0,0,0))) n 0&&(qH (fun i=>wV (mul.getD i 0)) n 0&&(qo wV n bil&&(qo gW n pos&&xv n pos))))))))
def Wy k b c r:JT k b c r=some (fg (b,c,r)):=by
 unfold JT fg;grind
def yTm k b c r:OK k b c r=some (fg (b,c,r)):=Wy k b c r
def Wz k n:JU k n=some (wV n):=by
 unfold JU wV;grind
def vWk k n:WA k n=some (wV n):=Wz k n
def vH1 k n:OM k n=some (gW n):=by
 unfold OM gW;grind
def vFw {k:Nat}{n:Nat}(hk:n<k)(hn:n≤1000)(m:EQ):JV k m n=some (nn n m):=by
 unfold JV nn;simp only[sL];by_cases h:m.length=n
 ·have := mj (L := fun c i => JW k c m n i) (N := n) (fun i => decide ((m.getD i []).length = n)) (.inl ()) (.inr false) (fun c=>by
    show EE k _ m n n=_;unfold EE;simp only [qU, ab (Nat.lt_irrefl n), ak]) (fun c i hi=>by
    show EE k _ m n i=_;unfold EE;simp only[qC,qD hi (by omega),qU,sL,ao,h,aa hi,ag];cases decide ((m.getD i []).length=n)<;>rfl) hk
  simp only[h,decide_true,aA,ak,Bool.true_and];rw[this];generalize qH _ _ _=r;cases r<;>rfl
 ·simp only[ab h,bF,ag,Bool.false_and]
def vMr {k:Nat}{N i:Nat}(hk:N<k)(hN:N≤1000)(hi:i<N){a:List yA}{b p:EQ}{m:AC}(hb:b.length=N)(hp:p.length=N)(WB:∀j,j<N→(b.getD j []).length=N)(pq:∀j,j<N→(p.getD j []).length=N):
  EF k k N i 0 a b m p=some (bif qH (fun j=>wV (cell b i j)&&(gW (cell p i j)&&decide (cell p i j=zA (0-cell p j i)))) N 0 then .inl ((N:Int),(i:Int),a,b,m,p) else .inr false):=by
 refine mj (L:=fun c j=>EF k c N i j a b m p) (N:=N) _ (.inl ((N:Int),(i:Int),a,b,m,p)) (.inr false) (fun c=>?_) (fun c j hj=>?_) hk
 ·show EG k _ N i N a b m p=_;unfold EG;simp only[qU,ab (Nat.lt_irrefl N),ak]
 ·show EG k _ N i j a b m p=_;unfold EG;simp only[qC,qD hj (by omega),qU,ao,hb,hp,WB i hi,pq i hi,pq j hj,aa hj,aa hi,ag,Wz,ae,gW];show(bif !wV (cell b i j) then _ else bif decide (cell p i j≤_) then _ else bif decide (cell p i j≥_) then _ else bif !decide (cell p i j=_) then _ else _)=_;have e1:decide (cell p i j≤-72057594037927936)= !decide (cell p i j>-72057594037927936):=by
   by_cases h:cell p i j≤-72057594037927936
   ·rw[aa h,ab (by omega)];rfl
   ·rw[ab h,aa (by omega)];rfl
  have e2:decide (cell p i j≥72057594037927936)= !decide (cell p i j<72057594037927936):=by
   by_cases h:cell p i j≥72057594037927936
   ·rw[aa h,ab (by omega)];rfl
   ·rw[ab h,aa (by omega)];rfl
  rw[e1,e2];show(bif !wV (cell b i j) then _ else bif _ then _ else bif _ then _ else bif !decide (cell p i j=zA (0-cell p j i)) then _ else _)=_;cases wV (cell b i j)<;>cases decide (cell p i j>-72057594037927936)<;>cases decide (cell p i j<72057594037927936)<;>cases decide (cell p i j=zA (0-cell p j i))<;>rfl
def vQ5 {k:Nat}{N:Nat}(hk:N<k)(hN:N≤1000){a:List yA}{b p:EQ}{m:AC}(ha:a.length=N)(hm:m.length=N)(hb:b.length=N)(hp:p.length=N)(WB:∀j,j<N→(b.getD j []).length=N)(pq:∀j,j<N→(p.getD j []).length=N):
  EH k k N 0 a b m p=some (bif qH (fun i=>fg (a.getD i (0,0,0))&&(wV (m.getD i 0)&&qH (fun j=>wV (cell b i j)&&(gW (cell p i j)&&decide (cell p i j=zA (0-cell p j i)))) N 0)) N 0 then .inl () else .inr false):=by
 refine mj (L:=fun c j=>EH k c N j a b m p) (N:=N) _ (.inl ()) (.inr false) (fun c=>?_) (fun c i hi=>?_) hk
 ·show EI k _ N N a b m p=_;unfold EI;simp only[qU,ab (Nat.lt_irrefl N),ak]
 ·show EI k _ N i a b m p=_;unfold EI;simp only[qC,qU,ao,ha,hm,aa hi,ag,Wz,Wy,ae,vMr hk hN hi hb hp WB pq];generalize qH _ N 0=r;show(bif !fg (a.getD i (0,0,0)) then _ else _)=_;cases fg (a.getD i (0,0,0))<;>cases wV (m.getD i 0)<;>cases r<;>simp only[aA,bF,ag,ak,Bool.and_true,Bool.and_false,Bool.true_and,Bool.false_and,qD hi (show N<9223372036854775808 by omega)]
def vOx {k:Nat}(hk:10<k)(a:List yA)(b:EQ)(m:AC)(p:EQ):ON k a b m p=some (np a b m p):=by
 unfold ON;have l1:decide ((a.length:Int)<1)= !decide (1≤a.length):=by
  by_cases h:1≤a.length
  ·rw[aa h,ab (by omega)];rfl
  ·rw[ab h,aa (by omega)];rfl
 have l2:decide ((a.length:Int)>6)= !decide (a.length≤6):=by
  by_cases h:a.length≤6
  ·rw[aa h,ab (by omega)];rfl
  ·rw[ab h,aa (by omega)];rfl
 rw[l1,l2];unfold np;dsimp only;by_cases h1:1≤a.length
 case neg=>rw[ab h1];rfl
 by_cases h2:a.length≤6
 case neg=>rw[aa h1,ab h2];rfl
 rw[aa h1,aa h2];simp only[aA,ak,Bool.true_and];rw[vFw (by omega) (by omega),vFw (by omega) (by omega)];simp only[ae,sL];cases hb:nn a.length b with
 |false=>rfl
 |true=>
  cases hp:nn a.length p with
  |false=>rfl
  |true=>
   by_cases hm:m.length=a.length
   case neg=>simp only[ab hm];rfl
   simp only[nn,bb,aW,gE] at hb hp;simp only[hm,decide_true,aA,ak,Bool.true_and];rw[vQ5 (by omega) (by omega) rfl hm hb.1 hp.1 hb.2 hp.2];have e:(qH (fun i=>fg (a.getD i (0,0,0))) a.length 0&&(qH (fun i=>wV (m.getD i 0)) a.length 0&&(qo wV a.length b&&(qo gW a.length p&&xv a.length p))))=
     qH (fun i=>fg (a.getD i (0,0,0))&&(wV (m.getD i 0)&&qH (fun j=>wV (cell b i j)&&(gW (cell p i j)&&decide (cell p i j=zA (0-cell p j i)))) a.length 0)) a.length 0:=by
    rw[Bool.eq_iff_iff];simp only[qo,xv,bb,gE];constructor
    ·rintro⟨h1,h2,h3,h4,h5⟩ i hi
     exact⟨h1 i hi,h2 i hi,fun j hj=>⟨h3 i hi j hj,h4 i hi j hj,h5 i hi j hj⟩⟩
    ·intro h;exact⟨fun i hi=>(h i hi).1,fun i hi=>(h i hi).2.1,fun i hi j hj=>((h i hi).2.2 j hj).1,fun i hi j hj=>((h i hi).2.2 j hj).2.1,fun i hi j hj=>((h i hi).2.2 j hj).2.2⟩
   rw[e];generalize qH _ _ _=r;cases r<;>rfl
def WC {k}{a:List yA}(hk:a.length<k)(hl:a.length<9223372036854775808):OO k a=some (!qH (fun i=>fg (a.getD i (0,0,0))) a.length 0):=by
 obtain ⟨x, h1, h2⟩ := xn (L := fun c i => JX k c a a.length i) (N := a.length) (fun i => !fg (a.getD i (0, 0, 0))) (fun c=>by
  show EJ k _ a a.length a.length=_;unfold EJ;simp) (fun c i hi=>by
  show EJ k _ a a.length i=_;unfold EJ WD;simp[qC,qD hi hl,aa hi,yTm]) hk
 unfold OO WE;grind
def WG {k a}(hk:a.length<k)(hl:a.length<9223372036854775808):OP k a=some (!qH (fun i=>wV (a.getD i 0)) a.length 0):=by
 obtain ⟨x, h1, h2⟩ := xn (L := fun c i => JY k c a a.length i) (N := a.length) (fun i => !wV (a.getD i 0)) (fun c=>by
  show EK k _ a a.length a.length=_;unfold EK;simp) (fun c i hi=>by
  show EK k _ a a.length i=_;unfold EK WH;simp[qC,qD hi hl,aa hi,vWk]) hk
 unfold OP WI;grind
def WJ {k a}(hk:a.length<k)(hl:a.length<9223372036854775808):OQ k a=some (!qH (fun i=>gW (a.getD i 0)) a.length 0):=by
 obtain ⟨x, h1, h2⟩ := xn (L := fun c i => JZ k c a a.length i) (N := a.length) (fun i => !gW (a.getD i 0)) (fun c=>by
  show EL k _ a a.length a.length=_;unfold EL;simp) (fun c i hi=>by
  show EL k _ a a.length i=_;unfold EL WK;simp[qC,qD hi hl,aa hi,vH1]) hk
 unfold OQ WL;grind
def yRd {k n:Nat}(hk:n<k)(hn:n≤1000)(a:AC):J0 k a n=some (decide (a.length=n)&&qH (fun i=>wV (a.getD i 0)) n 0):=by
 unfold J0;simp only[sL];by_cases h:a.length=n
 ·rw[WG (by omega) (by omega)];simp only[h,decide_true,ag,ae,Bool.not_not,Bool.true_and]
 ·simp only[ab h,ak,Bool.false_and]
def WM {k n:Nat}(hk:n<k)(hn:n≤1000)(a:AC):OR k a n=some (decide (a.length=n)&&qH (fun i=>gW (a.getD i 0)) n 0):=by
 unfold OR;simp only[sL];by_cases h:a.length=n
 ·rw[WJ (by omega) (by omega)];simp only[h,decide_true,ag,ae,Bool.not_not,Bool.true_and]
 ·simp only[ab h,ak,Bool.false_and]
def WN {k n:Nat}(hk:n<k)(hn:n≤1000)(m:EQ):OT k m n=some (decide (m.length=n)&&qH (fun i=>decide ((m.getD i []).length=n)&&qH (fun j=>wV (cell m i j)) n 0) n 0):=by
 unfold OT;simp only[sL];by_cases h:m.length=n
 ·have := mj (L := fun c i => J1 k c n m n i) (N := n) (fun i => decide ((m.getD i []).length = n) && qH (fun j => wV (cell m i j)) n 0) (.inl ()) (.inr false) (fun c=>by
    show EM k _ n m n n=_;unfold EM;simp only [qU, ab (Nat.lt_irrefl n), ak]) (fun c i hi=>by
    show EM k _ n m n i=_;unfold EM;simp only[qC,qD hi (by omega),qU,ao,h,aa hi,ag,yRd hk hn,ae];show(bif !(decide ((m.getD i []).length=n)&&qH (fun j=>wV (cell m i j)) n 0) then _ else _)=_;generalize (decide ((m.getD i []).length=n)&&qH (fun j=>wV (cell m i j)) n 0)=r;cases r<;>rfl) hk
  simp only[h,decide_true,aA,ak,Bool.true_and];rw[this];generalize qH _ _ _=r;cases r<;>rfl
 ·simp only[ab h,bF,ag,Bool.false_and]
def vWm {k n:Nat}(hk:n<k)(hn:n≤1000)(m:EQ):OU k m n=some (decide (m.length=n)&&qH (fun i=>decide ((m.getD i []).length=n)&&qH (fun j=>gW (cell m i j)) n 0) n 0):=by
 unfold OU;simp only[sL];by_cases h:m.length=n
 ·have := mj (L := fun c i => J2 k c n m n i) (N := n) (fun i => decide ((m.getD i []).length = n) && qH (fun j => gW (cell m i j)) n 0) (.inl ()) (.inr false) (fun c=>by
    show EN k _ n m n n=_;unfold EN;simp only [qU, ab (Nat.lt_irrefl n), ak]) (fun c i hi=>by
    show EN k _ n m n i=_;unfold EN;simp only[qC,qD hi (by omega),qU,ao,h,aa hi,ag,WM hk hn,ae];show(bif !(decide ((m.getD i []).length=n)&&qH (fun j=>gW (cell m i j)) n 0) then _ else _)=_;generalize (decide ((m.getD i []).length=n)&&qH (fun j=>gW (cell m i j)) n 0)=r;cases r<;>rfl) hk
  simp only[h,decide_true,aA,ak,Bool.true_and];rw[this];generalize qH _ _ _=r;cases r<;>rfl
 ·simp only[ab h,bF,ag,Bool.false_and]
def vJa {k N i:Nat}(hk:N<k)(hN:N≤1000)(hi:i<N){p q:EQ}{u:Int}(hp:p.length=N)(pq:∀j,j<N→(p.getD j []).length=N):
  EO k k p i q u i (p.getD i []) N 0=some (bif qH (fun j=>decide (cell p j i=zA (0-cell p i j))) N 0 then .inl (p,q,u,(i:Int)) else .inr false):=by
 refine mj (L:=fun c j=>EO k c p i q u i (p.getD i []) N j) (N:=N) _ (.inl (p,q,u,(i:Int))) (.inr false) (fun c=>?_) (fun c j hj=>?_) hk
 ·show EP k _ p i q u i (p.getD i []) N N=_;unfold EP;simp only[qU,ab (Nat.lt_irrefl N),ak]
 ·show EP k _ p i q u i (p.getD i []) N j=_;unfold EP;simp only[qC,qD hj (show N<9223372036854775808 by omega),qU,ao,hp,pq i hi,pq j hj,aa hj,aa hi,ag];show(bif !decide (cell p j i=zA (0-cell p i j)) then _ else _)=_;generalize decide (cell p j i=zA (0-cell p i j))=r;cases r<;>rfl
def WO {k N}(hk:N<k)(hN:N≤1000){p}(hp:p.length=N)(pq:∀j,j<N→(p.getD j []).length=N):
  OV k p=some (xv N p):=by
 have := mj (L := fun c i => J3 k c p p N i) (N := N) (fun i => qH (fun j => decide (cell p j i = zA (0 - cell p i j))) N 0) (.inl ()) (.inr false) (fun c=>by
   show ER k _ p p N N=_;unfold ER;simp) (fun c i hi=>by
   show ER k _ p p N i=_;unfold ER;simp only[qC,qU,ao,hp,pq i hi,aa hi,vJa hk hN hi hp pq,ae];generalize qH _ N 0=r;cases r<;>simp[qD hi (by grind)]) hk
 unfold OV;have e:qH (fun i=>qH (fun j=>decide (cell p j i=zA (0-cell p i j))) N 0) N 0=xv N p:=by
  rw[Bool.eq_iff_iff];simp[xv,gE];grind
 grind
def yMk {k:Nat}(hk:10<k)(a:List yA)(b:EQ)(m:AC)(p:EQ):Bw k a b m p=some (np a b m p):=by
 unfold Bw;have l1:decide ((a.length:Int)<1)= !decide (1≤a.length):=by
  by_cases h:1≤a.length
  ·rw[aa h,ab (by omega)];rfl
  ·rw[ab h,aa (by omega)];rfl
 have l2:decide ((a.length:Int)>6)= !decide (a.length≤6):=by
  by_cases h:a.length≤6
  ·rw[aa h,ab (by omega)];rfl
  ·rw[ab h,aa (by omega)];rfl
 rw[l1,l2];unfold np;dsimp only;by_cases h1:1≤a.length
 case neg=>rw[ab h1];rfl
 by_cases h2:a.length≤6
 case neg=>rw[aa h1,ab h2];rfl
 rw[aa h1,aa h2];simp only[aA,ak,Bool.true_and];rw[WC (by omega) (by omega),WN (by omega) (by omega),yRd (by omega) (by omega),vWm (by omega) (by omega)];simp only[ae];generalize hA:qH (fun i=>fg (a.getD i (0,0,0))) a.length 0=A;have sq:∀(q:Int→Bool) (m:EQ),(decide (m.length=a.length)&&qH (fun i=>decide ((m.getD i []).length=a.length)&&qH (fun j=>q (cell m i j)) a.length 0) a.length 0)=(nn a.length m&&qo q a.length m):=by
  intro q m;rw[Bool.eq_iff_iff];simp only[nn,qo,bb,aW,gE];exact⟨fun h=>⟨⟨h.1,fun i hi=>(h.2 i hi).1⟩,fun i hi=>(h.2 i hi).2⟩,fun h=>⟨h.1.1,fun i hi=>⟨h.1.2 i hi,h.2 i hi⟩⟩⟩
 rw[sq wV b,sq gW p];cases hp:nn a.length p with
 |false=>
  cases A<;>cases nn a.length b<;>cases qo wV a.length b<;>cases decide (m.length=a.length)<;>cases qH (fun i=>wV (m.getD i 0)) a.length 0<;>rfl
 |true=>
  simp only[nn,bb,aW,gE] at hp;rw[WO (N:=a.length) (by omega) (by omega) hp.1 hp.2];cases A<;>cases nn a.length b<;>cases qo wV a.length b<;>cases decide (m.length=a.length)<;>cases qH (fun i=>wV (m.getD i 0)) a.length 0<;>cases qo gW a.length p<;>cases xv a.length p<;>rfl
def yNy {k N:Nat}{s}(hN:s.length=N)(hl:N≤1000)(hr:∀i,i<N→(s.getD i []).length≤1000):∀c i n,i+c=N→c<n→J4 k n s i (s.take i)=some s
 |0,i,n,h,hn=>by
  obtain⟨n,rfl⟩:∃m,n=m+1:=⟨n-1,by omega⟩;show ES k _ s i (s.take i)=_;unfold ES;grind
 |c+1,i,n,h,hn=>by
  obtain⟨n,rfl⟩:∃m,n=m+1:=⟨n-1,by omega⟩;show ES k _ s i (s.take i)=_;unfold ES;have hi:i<s.length:=by omega
  have h1:=hr i (by omega);have e1:zL (0+(s.getD i []).length) 8=true:=qI (by omega) (by omega);have e2:zL ((s.take i).length+1) 24=true:=qI (by grind) (by grind);simp only[qC,qD hi (by grind),qU,ao,aa hi,e1,e2];rw[fc s i [] hi];exact yNy hN hl hr c (i+1) n (by omega) (by omega)
def ySc {k s}(hl:s.length≤1000)(hk:s.length<k)(hr:∀i,i<s.length→(s.getD i []).length≤1000):J5 k s=some s:=by
 unfold J5;have:=yNy (k:=k) rfl hl hr s.length 0 k (by omega) hk;simp_all
def yPp {k N:Nat}{s}(hN:s.length=N)(hl:N≤1000)(hr:∀i,i<N→(s.getD i []).length≤1000):∀c i n,i+c=N→c<n→J6 k n s N i (s.take i) N=some (s,N)
 |0,i,n,h,hn=>by
  obtain⟨n,rfl⟩:∃m,n=m+1:=⟨n-1,by omega⟩;show ET k _ s N i (s.take i) N=_;unfold ET;grind
 |c+1,i,n,h,hn=>by
  obtain⟨n,rfl⟩:∃m,n=m+1:=⟨n-1,by omega⟩;show ET k _ s N i (s.take i) N=_;unfold ET qp;have hi:i<N:=by omega
  have h1:=hr i (by omega);have e1:zL (0+(s.getD i []).length) 8=true:=qI (by omega) (by omega);have e2:Nat.beq i (s.take i).length=true:=by rw[List.length_take,Nat.min_eq_left (by omega)];simp
  simp only[qC,qD hi (by grind),qU,ao,aa hi,ag,e1,e2,hN,ae];rw[fc s i [] (by omega)];exact yPp hN hl hr c (i+1) n (by omega) (by omega)
def vEp {k s}(hl:s.length≤1000)(hk:s.length<k)(hr:∀i,i<s.length→(s.getD i []).length≤1000):J7 k s=some s:=by
 unfold J7 WQ;have:=yPp (k:=k) rfl hl hr s.length 0 k (by omega) hk;rw[List.take_zero] at this;have e:((0:Nat):Int)=0:=rfl;rw[e] at this;have e1:zL (0+s.length) 24=true:=qI (by omega) (by omega);simp only[e1,ag,ae];rw[this];simp only[VF];simp
structure Sized (a:List yA) (b:EQ) (m:AC) (p:EQ):Prop where
 n1:1≤a.length
 n6:a.length≤6
 bl:b.length=a.length
 br:∀i,i<a.length→(b.getD i []).length=a.length
 ml:m.length=a.length
 pl:p.length=a.length
 pr:∀i,i<a.length→(p.getD i []).length=a.length
structure wP (a:List yA) (b:EQ) (m:AC) (p:EQ):Prop extends Sized a b m p where
 acct:∀i,i<a.length→fg (a.getD i (0,0,0))=true
 mul:∀i,i<a.length→wV (m.getD i 0)=true
 bil:∀i,i<a.length→∀j,j<a.length→wV (cell b i j)=true
 net:∀i,i<a.length→∀j,j<a.length→gW (cell p i j)=true
 turn:∀i,i<a.length→∀j,j<a.length→cell p i j=zA (0-cell p j i)
def OW {a:List yA}{b:EQ}{m:AC}{p:EQ}:np a b m p=true↔wP a b m p:=by
 unfold np;simp only[bb,aW,nn,qo,xv,gE];constructor
 ·rintro⟨h1,h2,⟨h3,h4⟩,⟨h5,h6⟩,h7,h8,h9,J8,J9,h12⟩
  exact{n1:=h1,n6:=h2,bl:=h3,br:=h4,ml:=h7,pl:=h5,pr:=h6,acct:=h8,mul:=h9,bil:=J8,net:=J9,turn:=h12}
 ·intro h;exact⟨h.n1,h.n6,⟨h.bl,h.br⟩,⟨h.pl,h.pr⟩,h.ml,h.acct,h.mul,h.bil,h.net,h.turn⟩
def Ka {k}(hk:10<k){a b m p}(h:Sized a b m p):pt k a b m p=some (a,b,m,p):=by
 obtain⟨h1,h2,h3,h4,h5,h6,h7⟩:=h;unfold pt;have e1:zL (0+a.length) 24=true:=qI (by omega) (by omega);have e2:zL (0+m.length) 8=true:=qI (by omega) (by omega);rw[ySc (s:=b) (by omega) (by omega) (by grind),ySc (s:=p) (by omega) (by omega) (by grind)];grind
def Kb {k}(hk:10<k){a b m p}(h:Sized a b m p):gF k a b m p=some (a,b,m,p):=by
 obtain⟨h1,h2,h3,h4,h5,h6,h7⟩:=h;unfold gF WR qp;have e1:zL (0+a.length) 24=true:=qI (by omega) (by omega);have e2:zL (0+m.length) 8=true:=qI (by omega) (by omega);rw[vEp (s:=b) (by omega) (by omega) (by grind),vEp (s:=p) (by omega) (by omega) (by grind)];grind
def OX {α:Type} d [DecidableEq α]{a b:List α}(h:a.length=b.length):qH (fun i=>decide (a.getD i d=b.getD i d)) a.length 0=decide (a=b):=by
 rw[Bool.eq_iff_iff,gE];simp;exact⟨fun h'=>Eo d h h',by grind⟩
def EU {k:Nat}{a b:AC}(hk:a.length<k)(hl:a.length<9223372036854775808):og k a b=some (decide (a=b)):=by
 unfold og;simp only[sL];by_cases h:a.length=b.length
 ·have := mj (L := fun c i => Kc k c a b i) (N := a.length) (fun i => decide (a.getD i 0 = b.getD i 0)) (.inl ()) (.inr false) (fun c=>by
    show EV k _ a b a.length=_;unfold EV;simp only [qU, ab (Nat.lt_irrefl _), ak]) (fun c i hi=>by
    show EV k _ a b i=_;unfold EV;simp only[qC,qD hi hl,qU,ao,←h,aa hi,ag];cases decide (a.getD i 0=b.getD i 0)<;>rfl) hk
  rw[OX 0 h] at this;simp only[h,decide_true,aA,ak];rw[this];cases decide (a=b)<;>rfl
 ·simp only[ab h,bF,ag];rw[ab fun e=>h (by rw[e])]
def OY {k:Nat}{a b:EQ}(hk:a.length<k)(hl:a.length<9223372036854775808)(hr:∀i,i<a.length→(a.getD i []).length<k∧(a.getD i []).length<9223372036854775808):ux k a b=some (decide (a=b)):=by
 unfold ux;simp only[sL];by_cases h:a.length=b.length
 ·have := mj (L := fun c i => Ke k c a b i) (N := a.length) (fun i => decide (a.getD i [] = b.getD i [])) (.inl ()) (.inr false) (fun c=>by
    show EW k _ a b a.length=_;unfold EW;simp only [qU, ab (Nat.lt_irrefl _), ak]) (fun c i hi=>by
    show EW k _ a b i=_;unfold EW;simp only[qC,qD hi hl,qU,ao,←h,aa hi,ag,EU (hr i hi).1 (hr i hi).2,ae];cases decide (a.getD i []=b.getD i [])<;>rfl) hk
  rw[OX [] h] at this;simp only[h,decide_true,aA,ak];rw[this];cases decide (a=b)<;>rfl
 ·simp only[ab h,bF,ag];rw[ab fun e=>h (by rw[e])]
def yN1 {k:Nat}(hk:10<k){a:List yA}{b:EQ}{m:AC}{p:EQ}(h:Sized a b m p)(a':List yA)(b':EQ)(m':AC)(p':EQ):
  EX k a b m p a' b' m' p'=some (decide (a=a')&&(decide (b=b')&&(decide (p=p')&&decide (m=m')))):=by
 obtain⟨h1,h2,h3,h4,h5,h6,h7⟩:=h;unfold EX;simp only[sL];by_cases hl:a.length=a'.length
 ·rw[OY (a:=b) (by omega) (by omega) (fun i hi=>by rw[h4 i (by omega)];omega),OY (a:=p) (by omega) (by omega) (fun i hi=>by rw[h7 i (by omega)];omega),EU (by omega) (by omega)];have := mj (L := fun c i => Kf k c i a b m p a' b' m' p') (N := a.length) (fun i => decide (a.getD i (0, 0, 0) = a'.getD i (0, 0, 0))) (.inl ()) (.inr false) (fun c=>by
    show EY k _ a.length a b m p a' b' m' p'=_;unfold EY;simp only [qU, ab (Nat.lt_irrefl _), ak]) (fun c i hi=>by
    show EY k _ i a b m p a' b' m' p'=_;unfold EY;simp only[qC,qD hi (show a.length<9223372036854775808 by omega),qU,ao,←hl,aa hi,ag];have e:decide (a.getD i (0,0,0)=a'.getD i (0,0,0))=(decide ((a.getD i (0,0,0)).1=(a'.getD i (0,0,0)).1)&&(decide ((a.getD i (0,0,0)).2.1=(a'.getD i (0,0,0)).2.1)&&decide ((a.getD i (0,0,0)).2.2=(a'.getD i (0,0,0)).2.2))):=by
     rw[Bool.eq_iff_iff];simp only[bb,aW];exact⟨fun h=>by rw[h];exact⟨rfl,rfl,rfl⟩,fun h=>Prod.ext h.1 (Prod.ext h.2.1 h.2.2)⟩
    rw[e];generalize (decide ((a.getD i (0,0,0)).1=(a'.getD i (0,0,0)).1)&&_)=r;cases r<;>rfl) (show a.length<k by omega)
  rw[OX (0,0,0) hl] at this;simp only[hl,decide_true,aA,ak,ae];have e0:((0:Nat):Int)=0:=rfl;rw[this];cases decide (b=b')<;>cases decide (p=p')<;>cases decide (m=m')<;>cases decide (a=a')<;>rfl
 ·simp only[ab hl,bF,ag];rw[ab fun e=>hl (by rw[e])];rfl
abbrev pd:zH:=(0,(0,(0,(0,(0,(0,0))))))
abbrev ad:yA:=(0,(0,0))
def qq (n:Nat)(p:zH):Bool:=decide (p.2.1≥0)&&(decide (p.2.1<(n:Int))&&(decide (p.2.2.1≥0)&&(decide (p.2.2.1<(n:Int))&&(!decide (p.2.1=p.2.2.1)&&(decide (p.2.2.2.1≥1)&&(decide (p.2.2.2.1≤1099511627776)&&(decide (p.2.2.2.2.1≥1)&&decide (p.2.2.2.2.1≤3))))))))
structure yJ (n:Nat) (p:zH):Prop where
 f0:0≤p.2.1
 f1:p.2.1<n
 t0:0≤p.2.2.1
 t1:p.2.2.1<n
 ne:p.2.1≠p.2.2.1
 a1:1≤p.2.2.2.1
 a2:p.2.2.2.1≤1099511627776
 c1:1≤p.2.2.2.2.1
 c3:p.2.2.2.2.1≤3
def WS {n p}:qq n p=true↔yJ n p:=by
 unfold qq;simp;exact⟨fun⟨h1,h2,h3,h4,h5,h6,h7,h8,h9⟩=>⟨h1,h2,h3,h4,h5,h6,h7,h8,h9⟩,fun⟨h1,h2,h3,h4,h5,h6,h7,h8,h9⟩=>by grind⟩
def OZ k (a:List yA) b m p i f t am c s ti:EZ k a b m p i f t am c s ti=some (qq a.length (i,f,t,am,c,s,ti)):=by
 unfold EZ qq;grind
def vQt k (a:List yA) b m p i f t am c s ti:WT k a b m p i f t am c s ti=some (qq a.length (i,f,t,am,c,s,ti)):=OZ k a b m p i f t am c s ti
def oh (n:Nat)(l:List zH):Bool:=qH (fun i=>qq n (l.getD i pd)) l.length 0
def Bx {n l}:oh n l=true↔∀p∈l,yJ n p:=by
 unfold oh;rw[gE];constructor
 ·intro h p hp;obtain⟨i,hi,rfl⟩:=List.getElem_of_mem hp;have:=h i hi;rw[List.getD_eq_getElem?_getD,List.getElem?_eq_getElem hi] at this;exact WS.1 this
 ·intro h i hi;exact WS.2 (by grind)
def vS7 {k}{l:List zH}(hk:l.length<k)(hl:l.length<9223372036854775808)(a:List yA) b m p:O0 k l a b m p=some (!oh a.length l):=by
 obtain ⟨x, h1, h2⟩ := xn (L := fun c i => Kg k c l l.length i a b m p) (N := l.length) (fun i => !qq a.length (l.getD i pd)) (fun c=>by
  show E0 k _ l l.length l.length a b m p=_;unfold E0;simp) (fun c i hi=>by
  show E0 k _ l l.length i a b m p=_;unfold E0 WU;simp[qC,qD hi hl,aa hi,OZ]) hk
 unfold O0 WV;unfold oh;grind
def yDr {k}{l:List zH}(hk:l.length<k)(hl:l.length<9223372036854775808)(a:List yA) b m p:Kh k a b m p l=some (oh a.length l&&decide (l.length≤64)):=by
 unfold Kh;have := mj (L := fun c i => Ki k c l i a b m p) (N := l.length) (fun i => qq a.length (l.getD i pd)) (.inl l) (.inr false) (fun c=>by
  show E1 k _ l l.length a b m p=_;unfold E1;simp) (fun c i hi=>by
  show E1 k _ l i a b m p=_;unfold E1;simp only[qC,qD hi hl,qU,aa hi,vQt];simp) hk
 unfold oh;have e:decide (((l.length:Nat):Int)≤64)=decide (l.length≤64):=by
  grind
 grind
def gB (i:Nat)(p:zH):Int:=(if p.2.2.1=i then p.2.2.2.1 else 0)-(if p.2.1=i then p.2.2.2.1 else 0)
def gS (i j:Nat)(p:zH):Int:=if p.2.1=i∧p.2.2.1=j then p.2.2.2.1 else 0
def gR (i:Nat)(p:zH):Int:=if p.2.1=i∧p.2.2.2.2.1≠3 then p.2.2.2.1 else 0
def jJ (r s:Int):Int:=if s≥r then 0 else r-s
def vO3 {r s t}(hs:0≤s)(ht:0≤t):jJ (jJ r s) t=jJ r (s+t):=by
 unfold jJ;omega
def WW {r}(hr:0≤r):jJ r 0=r:=by
 unfold jJ;omega
def vVa {r s}:0≤jJ r s:=by
 unfold jJ;omega
def vTv {r s}(hr:0≤r)(hs:0≤s):jJ r s≤r:=by
 unfold jJ;omega
section
variable {n:Nat} {p:zH}
def vVd (h:yJ n p) i:-1099511627776≤gB i p∧gB i p≤1099511627776:=by
 have h1:=h.a1;have h2:=h.a2;unfold gB;omega
def WX (h:yJ n p) i j:0≤gS i j p∧gS i j p≤1099511627776:=by
 have h1:=h.a1;have h2:=h.a2;unfold gS;omega
def O1 (h:yJ n p) i:0≤gR i p∧gR i p≤1099511627776:=by
 have h1:=h.a1;have h2:=h.a2;unfold gR;omega
end
def wJ (n:Nat)(l:List zH):Prop:=(∀p∈l,yJ n p)∧l.length≤64
def WY {n l}(h:wJ n l) i:-70368744177664≤zP (gB i) l∧zP (gB i) l≤70368744177664:=by
 have h1:=Em (g:=gB i) (A:=1099511627776) fun p hp=>vVd (h.1 p hp) i
 have h2:=h.2;omega
def uy {n l}(h:wJ n l) i j:0≤zP (gS i j) l∧zP (gS i j) l≤70368744177664:=by
 have h1:=Em (g:=gS i j) (A:=1099511627776) fun p hp=>by have:=WX (h.1 p hp) i j;omega
 have h0:=xo (g:=gS i j) fun p hp=>(WX (h.1 p hp) i j).1
 have h2:=h.2;omega
def By {n l}(h:wJ n l) i:0≤zP (gR i) l∧zP (gR i) l≤70368744177664:=by
 have h1:=Em (g:=gR i) (A:=1099511627776) fun p hp=>by have:=O1 (h.1 p hp) i;omega
 have h0:=xo (g:=gR i) fun p hp=>(O1 (h.1 p hp) i).1
 have h2:=h.2;omega
def wJ.take {n l}(h:wJ n l) i:wJ n (l.take i):=⟨fun p hp=>h.1 p (by grind),by rw[List.length_take];have:=h.2;omega⟩
structure uz (n:Nat) (a:List yA) (p:EQ) (l:List zH) (a':List yA) (p':EQ):Prop where
 al:a'.length=n
 acct:∀i,i<n→a'.getD i ad=((a.getD i ad).1+zP (gB i) l,(a.getD i ad).2.1,jJ (a.getD i ad).2.2 (zP (gR i) l))
 pl:p'.length=n
 pr:∀i,i<n→(p'.getD i []).length=n
 cell:∀i,i<n→∀j,j<n→cell p' i j=cell p i j+zP (gS i j) l-zP (gS j i) l
def vI1 {n p q}(hp:p.length=n)(hq:q.length=n)(pq:∀i,i<n→(p.getD i []).length=n)(hqr:∀i,i<n→(q.getD i []).length=n)(h:∀i,i<n→∀j,j<n→cell p i j=cell q i j):p=q:=
 Eo [] (by omega) fun i hi=>Eo 0 (by simp_all) fun j hj=>h i (by omega) j (by simp_all)
def uz.same {n a a1 a2 p p1 p2 l}(x:uz n a p l a1 p1)(y:uz n a p l a2 p2):a1=a2∧p1=p2:=
 ⟨Eo ad (by rw[x.al,y.al]) fun i hi=>by have:=x.al;rw[x.acct i (by omega),y.acct i (by omega)],
  vI1 x.pl y.pl x.pr y.pr fun i hi j hj=>by rw[x.cell i hi j hj,y.cell i hi j hj]⟩
structure O2 (n:Nat) (a:List yA) (p:EQ):Prop where
 al:a.length=n
 pl:p.length=n
 pr:∀i,i<n→(p.getD i []).length=n
 bal:∀i,i<n→-4611686018427387904<(a.getD i ad).1∧(a.getD i ad).1<4611686018427387904
 res:∀i,i<n→0≤(a.getD i ad).2.2∧(a.getD i ad).2.2≤2305843009213693952
 net:∀i,i<n→∀j,j<n→-72057594037927936<cell p i j∧cell p i j<72057594037927936
def wP.nums {a b m p}(h:wP a b m p):O2 a.length a p where
 al:=rfl
 pl:=h.pl
 pr:=h.pr
 bal:=fun i hi=>by
  have:=h.acct i hi;show-4611686018427387904<(a.getD i (0,0,0)).1∧(a.getD i (0,0,0)).1<4611686018427387904;simp only[fg,bb,aW] at this;omega
 res:=fun i hi=>by
  have:=h.acct i hi;show 0≤(a.getD i (0,0,0)).2.2∧(a.getD i (0,0,0)).2.2≤2305843009213693952;simp only[fg,bb,aW] at this;omega
 net:=fun i hi j hj=>by
  have:=h.net i hi j hj;simp[gW] at this;omega
def WZ {m f t i j x}(hf:f<m.length)(ht:t<(m.getD f []).length):cell (m.set f ((m.getD f []).set t x)) i j=if i=f∧j=t then x else cell m i j:=by
 unfold cell;grind
def O3 {n}{m:EQ}{f t x}(hm:m.length=n)(hr:∀i,i<n→(m.getD i []).length=n)(hf:f<n):∀i,i<n→((m.set f ((m.getD f []).set t x)).getD i []).length=n:=by
 grind
def E2 (p:zH)(r:List yA):List yA:=
 let y0:=r.set p.2.1.toNat (zA ((r.getD p.2.1.toNat ad).1-p.2.2.2.1),(r.getD p.2.1.toNat ad).2);let y1:=y0.set p.2.2.1.toNat (zA ((y0.getD p.2.2.1.toNat ad).1+p.2.2.2.1),(y0.getD p.2.2.1.toNat ad).2)
 bif !decide (p.2.2.2.2.1=3) then y1.set p.2.1.toNat ((y1.getD p.2.1.toNat ad).1,((y1.getD p.2.1.toNat ad).2.1,wN false (zA ((y1.getD p.2.1.toNat ad).2.2-p.2.2.2.1)) 0)) else y1
def xx (p:zH)(m:EQ):EQ:=
 let y3:=m.set p.2.1.toNat ((m.getD p.2.1.toNat []).set p.2.2.1.toNat (zA ((m.getD p.2.1.toNat []).getD p.2.2.1.toNat 0+p.2.2.2.1)))
 y3.set p.2.2.1.toNat ((y3.getD p.2.2.1.toNat []).set p.2.1.toNat (zA ((y3.getD p.2.2.1.toNat []).getD p.2.1.toNat 0-p.2.2.2.1)))
def vK1 p r:(E2 p r).length=r.length:=by
 unfold E2;grind
def W0 {n p}(h:yJ n p){r}(hr:r.length=n){i}(hi:i<n)(hb:∀i,i<n→-4611826755915743232<(r.getD i ad).1∧(r.getD i ad).1<4611826755915743232)
  (hz:∀i,i<n→0≤(r.getD i ad).2.2∧(r.getD i ad).2.2≤2305843009213693952):(E2 p r).getD i ad=((r.getD i ad).1+gB i p,(r.getD i ad).2.1,jJ (r.getD i ad).2.2 (gR i p)):=by
 obtain⟨f0,f1,t0,t1,ne,a1,a2,c1,c3⟩:=h;obtain⟨f,hf⟩:∃f:Nat,p.2.1=f:=⟨p.2.1.toNat,by omega⟩;obtain⟨t,ht⟩:∃t:Nat,p.2.2.1=t:=⟨p.2.2.1.toNat,by omega⟩;have O4:f≠t:=by omega
 have iA:f<n:=by omega
 have gX:t<n:=by omega
 have bf:=hb f iA;have bt:=hb t gX;have zf:=hz f iA;have e1:(r.set f (zA ((r.getD f ad).1-p.2.2.2.1),(r.getD f ad).2)).getD t ad=r.getD t ad:=by rw[fM,if_neg (fun e=>O4 e.1)]
 have key:∀j,j<n→((r.set f (zA ((r.getD f ad).1-p.2.2.2.1),(r.getD f ad).2)).set t (zA ((r.getD t ad).1+p.2.2.2.1),(r.getD t ad).2)).getD j ad=((r.getD j ad).1+gB j p,(r.getD j ad).2):=by
  intro j hj;unfold gB;rw[hf,ht,fM];by_cases hjt:t=j
  ·subst hjt;rw[if_pos (by grind),if_pos rfl,if_neg (by omega),zO (by omega) (by omega)];simp
  ·rw[if_neg (fun e=>hjt e.1),if_neg (by omega),fM];by_cases hjf:f=j
   ·subst hjf;rw[if_pos ⟨rfl,by omega⟩,if_pos rfl,zO (by omega) (by omega)];simp only[Int.zero_sub];rfl
   ·rw[if_neg (fun e=>hjf e.1),if_neg (by omega)];simp
 unfold E2;simp only[hf,ht,ao,e1];unfold gR;cases hc:decide (p.2.2.2.2.1=3) with
 |true=>
  have lS:p.2.2.2.2.1=3:=by simpa using hc
  simp only[aA,ak];rw[key i hi,if_neg (fun e=>e.2 lS),WW (hz i hi).1]
 |false=>
  have lS:p.2.2.2.2.1≠3:=by simpa using hc
  simp only[bF,ag];rw[fM];by_cases hif:f=i
  ·subst hif;rw[if_pos (by grind),key f iA,if_pos ⟨hf,lS⟩];have:wN false (zA ((r.getD f ad).2.2-p.2.2.2.1)) 0=jJ (r.getD f ad).2.2 p.2.2.2.1:=by
    rw[zO (by omega) (by omega)];unfold wN jJ;grind
   rw[this]
  ·rw[if_neg (fun e=>hif e.1),key i hi,if_neg (by omega),WW (hz i hi).1]
def yNo {n:Nat}{p:zH}(h:yJ n p){m:EQ}(hm:m.length=n)(hr:∀i,i<n→(m.getD i []).length=n)(hb:∀i,i<n→∀j,j<n→-72128000000000000<cell m i j∧cell m i j<72128000000000000):
  (xx p m).length=n∧(∀i,i<n→((xx p m).getD i []).length=n)∧∀i,i<n→∀j,j<n→cell (xx p m) i j=cell m i j+gS i j p-gS j i p:=by
 obtain⟨f0,f1,t0,t1,ne,a1,a2,c1,c3⟩:=h;obtain⟨f,hf⟩:∃f:Nat,p.2.1=f:=⟨p.2.1.toNat,by omega⟩;obtain⟨t,ht⟩:∃t:Nat,p.2.2.1=t:=⟨p.2.2.1.toNat,by omega⟩;have O4:f≠t:=by omega
 have iA:f<n:=by omega
 have gX:t<n:=by omega
 unfold xx;simp only[hf,ht,ao];have r1:=O3 (x:=zA ((m.getD f []).getD t 0+p.2.2.2.1)) (t:=t) hm hr iA;have c1:∀i j,cell (m.set f ((m.getD f []).set t (zA ((m.getD f []).getD t 0+p.2.2.2.1)))) i j=if i=f∧j=t then zA (cell m f t+p.2.2.2.1) else cell m i j:=fun i j=>WZ (by omega) (by rw[hr f iA];omega)
 refine⟨by simp only[List.length_set];exact hm,by grind,fun i hi j hj=>?_⟩;rw[WZ (by rw[List.length_set];omega) (by rw[r1 t gX];omega)];have e2:((m.set f ((m.getD f []).set t (zA ((m.getD f []).getD t 0+p.2.2.2.1)))).getD t []).getD f 0=cell m t f:=by
  show cell _ t f=_;simp_all
 rw[e2,c1];unfold gS;rw[hf,ht];have b1:=hb f iA t gX;have b2:=hb t gX f iA;by_cases h1:i=t∧j=f
 ·obtain⟨rfl,rfl⟩:=h1;rw[if_pos ⟨rfl,rfl⟩,if_neg (by omega),if_pos ⟨rfl,rfl⟩,zO (by omega) (by omega)];omega
 ·rw[if_neg h1];by_cases h2:i=f∧j=t
  ·obtain⟨rfl,rfl⟩:=h2;rw[if_pos ⟨rfl,rfl⟩,if_pos ⟨rfl,rfl⟩,if_neg (by omega),zO (by omega) (by omega)];omega
  omega
def vUc {k n a b m p l}(hk:l.length<k)(hx:O2 n a p)(hl:wJ n l)(b0:List yA) b1 b2 b3:
  ∃a' p',E3 k k l l.length 0 b0 b1 b2 b3 a b m p=some (b0,b1,b2,b3,a',b,m,p')∧uz n a p l a' p':=by
 have := yW (L := fun c i (s : List yA × EQ) => E3 k c l l.length i b0 b1 b2 b3 s.1 b m s.2) (N := l.length) (fun s => (b0, b1, b2, b3, s.1, b, m, s.2)) (fun i s => uz n a p (l.take i) s.1 s.2) (fun c s hs=>by
   show E4 k _ l l.length l.length b0 b1 b2 b3 s.1 b m s.2=_;unfold E4;simp) (fun c i s hi hs=>by
   refine⟨(E2 (l.getD i pd) s.1,xx (l.getD i pd) s.2),?_,?_⟩
   ·show E4 k _ l l.length i b0 b1 b2 b3 s.1 b m s.2=_;have bR:yJ n (l.getD i pd):=hl.1 _ (fa hi);unfold E4 E2 xx;have om:=hl.2;simp only[qC,qD hi (by grind),qU,ao,aa hi,ag];obtain⟨f0,f1,t0,t1,ne,a1,a2,c1,c3⟩:=bR;obtain⟨f,hf⟩:∃f:Nat,(l.getD i pd).2.1=f:=⟨(l.getD i pd).2.1.toNat,by omega⟩;obtain⟨t,ht⟩:∃t:Nat,(l.getD i pd).2.2.1=t:=⟨(l.getD i pd).2.2.1.toNat,by omega⟩;have iA:f<n:=by omega
    have gX:t<n:=by omega
    have r1:=O3 (x:=zA ((s.2.getD f []).getD t 0+(l.getD i pd).2.2.2.1)) (t:=t) hs.pl hs.pr iA;simp only[hf,ht,ao,qC,hs.al,hs.pl,List.length_set,hs.pr f iA,r1 t gX,aa iA,aa gX,ag,xy,ae];grind
   ·have bR:yJ n (l.getD i pd):=hl.1 _ (fa hi);have aR:=hl.take i;have hp := yNo bR hs.pl hs.pr (fun i' bJ j' mV=>by
     rw[hs.cell i' bJ j' mV];have h1:=hx.net i' bJ j' mV;have h2:=uy aR i' j';have h3:=uy aR j' i';omega)
    refine⟨by rw[vK1];exact hs.al,fun i' bJ=>?_,hp.1,hp.2.1,fun i' bJ j' mV=>?_⟩
    ·rw [W0 bR hs.al bJ (fun j hj=>by
       rw[hs.acct j hj];have h1:=hx.bal j hj;have h2:=WY aR j;dsimp only;omega) (fun j hj=>by
       rw[hs.acct j hj];have h1:=hx.res j hj;have h2:=By aR j;dsimp only;exact⟨vVa,Int.le_trans (vTv h1.1 h2.1) h1.2⟩),hs.acct i' bJ,←fc l i pd hi,mm,mm]
     dsimp only[zP];rw[vO3 (By aR i').1 (O1 bR i').1,Int.add_zero,Int.add_zero,Int.add_assoc]
    ·rw[hp.2.2 i' bJ j' mV,hs.cell i' bJ j' mV,←fc l i pd hi,mm,mm];dsimp only[zP];omega) (s:=(a,p)) hk ⟨hx.al,fun i hi=>by
      rw[List.take_zero];show a.getD i ad=((a.getD i ad).1+0,(a.getD i ad).2.1,jJ (a.getD i ad).2.2 0);rw[WW (hx.res i hi).1,Int.add_zero],hx.pl,hx.pr,fun i hi j hj=>by
      rw[List.take_zero];show cell p i j=cell p i j+0-0;omega⟩
 simp_all
def W1 {k n l}(hk:l.length<k)(hl:wJ n l)(i j:Nat):xz k l i j=some (zP (gS i j) l):=by
 have om:=hl.2;obtain ⟨s, h1, h2⟩ := yW (L := fun c x (s : Int) => Kj k c l i j s x) (N := l.length) (fun s => s) (fun x s => s = zP (gS i j) (l.take x)) (fun c s hs=>by
   show E5 k _ l i j s l.length=_;unfold E5;simp) (fun c x s hx hs=>by
   refine⟨zP (gS i j) (l.take (x+1)),?_,rfl⟩;show E5 k _ l i j s x=_;have hb:=uy (hl.take x) i j;have hm:yJ n (l.getD x pd):=hl.1 _ (by grind);have e:zP (gS i j) (l.take (x+1))=s+gS i j (l.getD x pd):=by
    rw[←fc l x pd hx,mm,hs];show _+(_+0)=_;omega
   have w:=zO (x:=s+(l.getD x pd).2.2.2.1) (by have:=hm.a1;omega) (by have:=hm.a2;omega);unfold E5;simp[qC,qD hx (by grind)];rw[e];unfold gS;grind) (s:=0) hk rfl
 unfold xz;simp_all
def vX5 {k n l}(hk:l.length<k)(hl:wJ n l)(i j:Nat):O5 k l i j=some (zP (gS i j) l-zP (gS j i) l):=by
 unfold O5;rw[W1 hk hl i j,W1 hk hl j i];have h1:=uy hl i j;have h2:=uy hl j i;simp;rw[zO (by omega) (by omega)]
def gN (i:Nat)(p:zH):Int:=if p.2.1=i∧p.2.2.2.2.1=3 then p.2.2.2.1 else 0
def O6 {n p}(h:yJ n p) i:0≤gN i p∧gN i p≤1099511627776:=by
 have h1:=h.a1;have h2:=h.a2;unfold gN;omega
def yT2 {n l}(h:wJ n l) i:0≤zP (gN i) l∧zP (gN i) l≤70368744177664:=by
 have h1:=Em (g:=gN i) (A:=1099511627776) fun p hp=>by have:=O6 (h.1 p hp) i;omega
 have h0:=xo (g:=gN i) fun p hp=>(O6 (h.1 p hp) i).1
 have h2:=h.2;omega
def yTa {k n:Nat}{l}(hk:l.length<k)(hl:wJ n l)(i:Nat):Kk k l i=some (zP (gN i) l,zP (gR i) l):=by
 have om:=hl.2;obtain ⟨s, h1, h2⟩ := yW (L := fun c x (s : Int × Int) => Kl k c l i s.1 s.2 x) (N := l.length) (fun s => s) (fun x s => s = (zP (gN i) (l.take x), zP (gR i) (l.take x))) (fun c s hs=>by
   show E6 k _ l i s.1 s.2 l.length=_;unfold E6;simp) (fun c x s hx hs=>by
   refine⟨(zP (gN i) (l.take (x+1)),zP (gR i) (l.take (x+1))),?_,rfl⟩;show E6 k _ l i s.1 s.2 x=_;have hb:=yT2 (hl.take x) i;have bE:=By (hl.take x) i;have hm:yJ n (l.getD x pd):=hl.1 _ (by grind);have e:zP (gN i) (l.take (x+1))=s.1+gN i (l.getD x pd):=by
    rw[←fc l x pd hx,mm,hs];show _+(_+0)=_;omega
   have e':zP (gR i) (l.take (x+1))=s.2+gR i (l.getD x pd):=by
    rw[←fc l x pd hx,mm,hs];show _+(_+0)=_;omega
   have w:=zO (x:=s.1+(l.getD x pd).2.2.2.1) (by have:=hm.a1;grind) (by have:=hm.a2;grind);have w':=zO (x:=s.2+(l.getD x pd).2.2.2.1) (by have:=hm.a1;rw[hs];omega) (by have:=hm.a2;grind);unfold E6;simp only[qC,qD hx (by grind),qU,ag];rw[e,e'];unfold gN gR;grind) (s:=(0,0)) hk rfl
 unfold Kk;simp_all
def vWs {k n l}(hk:l.length<k)(hl:wJ n l)(i:Nat):O7 k l i=some (zP (gR i) l):=by
 unfold O7;rw[yTa hk hl i];rfl
def yR5 k b c r s (h:-9223372036854775808≤r-s)(h':r<9223372036854775808)(hs:0≤s):Km k b c r s=some (jJ r s):=by
 unfold Km jJ;by_cases e:s≥r
 ·simp_all
 ·rw[ab e,if_neg e,zO h (by omega)];rfl
def yNt {n l}(hl:∀p∈l,yJ n p) i (hi:i<n):qJ (fun j=>zP (gS i j) l-zP (gS j i) l) n= -zP (gB i) l:=by
 have e1:qJ (fun j=>zP (gS i j) l-zP (gS j i) l) n=qJ (fun j=>zP (fun p=>gS i j p-gS j i p) l) n:=sM fun j _=>(Wp _ _ l).symm
 rw[e1,Ow (fun j p=>gS i j p-gS j i p)];have e2:∀p∈l,qJ (fun j=>gS i j p-gS j i p) n=0-gB i p:=by
  intro p hp;obtain⟨f0,f1,t0,t1,ne,a1,a2,c1,c3⟩:=hl p hp;obtain⟨f,hf⟩:∃f:Nat,p.2.1=f:=⟨p.2.1.toNat,by omega⟩;obtain⟨t,ht⟩:∃t:Nat,p.2.2.1=t:=⟨p.2.2.1.toNat,by omega⟩;have g1:∀j,gS i j p-gS j i p=(if j=t then(if f=i then p.2.2.2.1 else 0) else 0)+(if j=f then(if t=i then-p.2.2.2.1 else 0) else 0):=by
   unfold gS;omega
  rw[sM fun j _=>g1 j,En,Bn,Bn];unfold gB;omega
 rw[Ov e2,Wp];have:zP (fun _:zH=>(0:Int)) l=0:=by
  clear e1 e2 hl
  induction l with
  |nil=>rfl
  |cons p l ih=>show 0+zP _ l=0;omega
 omega
structure vQx (n:Nat) (a:List yA) (p:EQ) (l:List zH) (i:Nat) (a':List yA) (p':EQ):Prop where
 al:a'.length=n
 done:∀x,x<n→x<i→a'.getD x ad=((a.getD x ad).1+zP (gB x) l,(a.getD x ad).2.1,jJ (a.getD x ad).2.2 (zP (gR x) l))
 rest:∀x,x<n→¬x<i→a'.getD x ad=a.getD x ad
 pl:p'.length=n
 pr:∀x,x<n→(p'.getD x []).length=n
 cell:∀x,x<n→∀y,y<n→cell p' x y=if x<i then cell p x y+zP (gS x y) l-zP (gS y x) l else cell p x y
structure W2 (n:Nat) (a:List yA) (p:EQ) (l:List zH) (i j:Nat) (a':List yA) (p':EQ):Prop where
 al:a'.length=n
 done:∀x,x<n→x<i→a'.getD x ad=((a.getD x ad).1+zP (gB x) l,(a.getD x ad).2.1,jJ (a.getD x ad).2.2 (zP (gR x) l))
 here:a'.getD i ad=((a.getD i ad).1-qJ (fun j=>zP (gS i j) l-zP (gS j i) l) j,(a.getD i ad).2.1,jJ (a.getD i ad).2.2 (zP (gR i) l))
 rest:∀x,x<n→i<x→a'.getD x ad=a.getD x ad
 pl:p'.length=n
 pr:∀x,x<n→(p'.getD x []).length=n
 cell:∀x,x<n→∀y,y<n→cell p' x y=if x<i∨(x=i∧y<j) then cell p x y+zP (gS x y) l-zP (gS y x) l else cell p x y
def vWx {k n a p l}(hk:n<k)(bP:l.length<k)(hn:n≤1000)(hx:O2 n a p)(hl:wJ n l){i}(hi:i<n)(b0:List yA) b1 b2 b3 b m
  {a0 p0} (h0:W2 n a p l i 0 a0 p0):∃a' p',E7 k k l i 0 b0 b1 b2 b3 a0 b m p0=some (l,(i:Int),b0,b1,b2,b3,a',b,m,p')∧W2 n a p l i n a' p':=by
 obtain ⟨s, h1, h2⟩ := yW (L := fun c j (s : List yA × EQ) => E7 k c l i j b0 b1 b2 b3 s.1 b m s.2) (N := n) (fun s => (l, (i : Int), b0, b1, b2, b3, s.1, b, m, s.2)) (fun j s => W2 n a p l i j s.1 s.2) (fun c s hs=>by
   show E8 k _ l i n b0 b1 b2 b3 s.1 b m s.2=_;unfold E8;simp only [qU, hs.al, ab (Nat.lt_irrefl _), ak]) (fun c j s hj hs=>by
   refine⟨(s.1.set i (zA ((s.1.getD i ad).1-(zP (gS i j) l-zP (gS j i) l)),(s.1.getD i ad).2),s.2.set i ((s.2.getD i []).set j (zA ((s.2.getD i []).getD j 0+(zP (gS i j) l-zP (gS j i) l))))),?_,?_⟩
   ·show E8 k _ l i j b0 b1 b2 b3 s.1 b m s.2=_;unfold E8;simp only[qC,qD hj (by grind),qU,ao,hs.al,hs.pl,hs.pr i hi,aa hi,aa hj,ag,vX5 bP hl,ae]
   ·have hb:=hx.bal i hi;have hg:∀j,-70368744177664≤zP (gS i j) l-zP (gS j i) l∧zP (gS i j) l-zP (gS j i) l≤70368744177664:=fun j=>by
     have h1:=uy hl i j;have h2:=uy hl j i;omega
    have DU:=xp hg j;have Ei:=hg j;have qs:=hx.net i hi j hj;have hc:=hs.cell i hi j hj;rw[if_neg (by omega)] at hc;refine⟨by simp only[List.length_set];exact hs.al,fun x kb xA=>?_,?_,fun x kb xA=>?_,by simp only[List.length_set];exact hs.pl,O3 hs.pl hs.pr hi,fun x kb y Kn=>?_⟩
    ·rw[fM,if_neg (by grind)];exact hs.done x kb xA
    ·rw[fM,if_pos ⟨rfl,by rw[hs.al];exact hi⟩,hs.here];dsimp only;rw[zO (by omega) (by omega)];show(_,_)=((a.getD i ad).1-(qJ _ j+_),_);grind
    ·rw[fM,if_neg (by grind)];exact hs.rest x kb xA
    ·have e:(s.2.getD i []).getD j 0=cell p i j:=hc;rw[WZ (by rw[hs.pl];exact hi) (by rw[hs.pr i hi];exact hj),e];by_cases O8:x=i∧y=j
     ·obtain⟨rfl,rfl⟩:=O8;rw[if_pos ⟨rfl,rfl⟩,if_pos (by omega),zO (by omega) (by omega)];omega
     ·rw[if_neg O8,hs.cell x kb y Kn];omega) (s:=(a0,p0)) hk h0
 grind
def vVz {k n a b m p l}(hk:n<k)(bP:l.length<k)(hn:n≤1000)(hx:O2 n a p)(hl:wJ n l)(b0:List yA) b1 b2 b3:
  ∃a' p',E9 k k l 0 b0 b1 b2 b3 a b m p=some (b0,b1,b2,b3,a',b,m,p')∧uz n a p l a' p':=by
 obtain ⟨s, h1, h2⟩ := yW (L := fun c i (s : List yA × EQ) => E9 k c l i b0 b1 b2 b3 s.1 b m s.2) (N := n) (fun s => (b0, b1, b2, b3, s.1, b, m, s.2)) (fun i s => vQx n a p l i s.1 s.2) (fun c s hs=>by
   show Fa k _ l n b0 b1 b2 b3 s.1 b m s.2=_;unfold Fa;simp only [qU, hs.al, ab (Nat.lt_irrefl _), ak]) (fun c i s hi hs=>by
   have hai:=hs.rest i hi (by simp);have hr:=hx.res i hi;have hsp:=By hl i;obtain⟨a',p',h1,h2⟩:=vWx (a0:=s.1.set i ((s.1.getD i ad).1,((s.1.getD i ad).2.1,jJ (s.1.getD i ad).2.2 (zP (gR i) l)))) (p0:=s.2) hk bP hn hx hl hi b0 b1 b2 b3 b m ⟨by rw[List.length_set];exact hs.al,fun x kb xA=>by
     rw[fM,if_neg (by grind)];exact hs.done x kb xA,by
     rw[fM,if_pos ⟨rfl,by rw[hs.al];exact hi⟩,hai];show _=((a.getD i ad).1-0,_,_);simp,fun x kb xA=>by
     rw[fM,if_neg (by grind)];exact hs.rest x kb (by omega),hs.pl,hs.pr,fun x kb y Kn=>by
     rw[hs.cell x kb y Kn];omega⟩
   refine⟨(a',p'),?_,?_⟩
   ·show Fa k _ l i b0 b1 b2 b3 s.1 b m s.2=_;unfold Fa;have hK:=yR5 k (s.1.getD i ad).1 (s.1.getD i ad).2.1 (s.1.getD i ad).2.2 (zP (gR i) l) (by grind) (by grind) hsp.1;simp only[qC,qU,ao,hs.al,aa hi,ag,vWs bP hl,ae];rw[hK];simp only[ae];rw[h1];simp only[ae,qD hi (by grind)]
   ·refine⟨h2.al,fun x kb xA=>?_,fun x kb xA=>h2.rest x kb (by omega),h2.pl,h2.pr,fun x kb y Kn=>?_⟩
    ·by_cases h:x<i
     ·exact h2.done x kb h
     ·have:x=i:=by omega
      subst this;rw[h2.here,yNt hl.1 x kb];simp
    ·rw[h2.cell x kb y Kn];omega) (s:=(a,p)) hk ⟨hx.al,by simp,by simp,hx.pl,hx.pr,by simp⟩
 exact⟨s.1,s.2,h1,h2.al,fun i hi=>h2.done i hi hi,h2.pl,h2.pr,fun i hi j hj=>by rw[h2.cell i hi j hj,if_pos hi]⟩
def sR (a:List yA)(b:EQ)(m:AC)(p:EQ)(l:List zH)(r:List yA×EQ×AC×EQ×Int):Prop:=
 (wJ a.length l→∃a' p',uz a.length a p l a' p'∧r=(bif np a' b m p' then(a',b,m,p',0) else(a,b,m,p,8)))∧(¬wJ a.length l→r=(a,b,m,p,1))
def O9 {k}(hk:100<k){a b m p}{l:List zH}(h:wP a b m p)(hl:l.length≤80):∃r,qt k a b m p l=some r∧sR a b m p l r:=by
 unfold qt sR;have e:decide (((l.length:Nat):Int)>64)=decide (¬l.length≤64):=by
  grind
 rw[e];by_cases bS:l.length≤64
 case neg=>
  rw[aa bS];exact⟨_,rfl,fun e=>absurd e.2 bS,by simp⟩
 rw[ab (by omega),vS7 (by omega) (by omega)];cases hm:oh a.length l with
 |false=>
  refine⟨_,rfl,fun e=>?_,by simp⟩;rw[Bx.2 e.1] at hm;cases hm
 |true=>
  have aR:wJ a.length l:=⟨Bx.1 hm,bS⟩;simp only[Kb (show 10<k by omega) h.toSized,ae];obtain⟨a',p',h1,h2⟩:=vUc (b:=b) (m:=m) (show l.length<k by omega) h.nums aR a b m p;rw[h1];simp only[ae,yMk (show 10<k by omega)];cases hB:np a' b m p' with
  |true=>exact⟨_,rfl,by grind,by grind⟩
  |false=>exact⟨_,rfl,by grind,by grind⟩
def vU4 {k}(hk:100<k){a b m p}{l:List zH}(h:wP a b m p)(hl:l.length≤80):∃r,Bz k a b m p l=some r∧sR a b m p l r:=by
 unfold Bz sR;rw[yDr (by omega) (by omega)];cases hm:oh a.length l with
 |false=>
  refine⟨_,rfl,fun e=>?_,by simp⟩;rw[Bx.2 e.1] at hm;cases hm
 |true=>
  by_cases bS:l.length≤64
  case neg=>
   rw[ab bS];exact⟨_,rfl,fun e=>absurd e.2 bS,by simp⟩
  have aR:wJ a.length l:=⟨Bx.1 hm,bS⟩;have h6:=h.n6;rw[aa bS];simp only[Ka (show 10<k by omega) h.toSized,ae];obtain⟨a',p',h1,h2⟩:=vVz (b:=b) (m:=m) (show a.length<k by omega) (by grind) (by omega) h.nums aR a b m p;rw[h1];simp only[ae,vOx (show 10<k by omega)];cases hB:np a' b m p' with
  |true=>exact⟨_,rfl,by grind,by grind⟩
  |false=>exact⟨_,rfl,by grind,by grind⟩
def sR.same {a b m p l r r'}(h:sR a b m p l r)(h':sR a b m p l r'):r=r':=by
 by_cases c:wJ a.length l
 ·obtain⟨a1,p1,x,rfl⟩:=h.1 c;obtain⟨a2,p2,y,rfl⟩:=h'.1 c;obtain⟨rfl,rfl⟩:=x.same y;rfl
 ·rw[h.2 c,h'.2 c]
def W3 {k n i p}(hk:n<k)(hn:n≤100)(hi:i<n)(hp:p.length=n)(hr:(p.getD i []).length=n)(hb:∀j,-72057594037927936≤cell p i j∧cell p i j≤72057594037927936)(a:List yA) b m:
  Pb k a b m p i=some (qJ (cell p i) n):=by
 obtain ⟨s, h1, h2⟩ := yW (L := fun c j (s : Int) => Fc k c i s j a b m p) (N := n) (fun s => s) (fun j s => s = qJ (cell p i) j) (fun c s hs=>by
   show Fe k _ i s n a b m p=_;unfold Fe;simp only [qC, qU, ao, hp, hr, aa hi, ab (Nat.lt_irrefl _), ak, ag]) (fun c j s hj hs=>by
   refine⟨qJ (cell p i) (j+1),?_,rfl⟩;show Fe k _ i s j a b m p=_;have h1:=xp hb j;have h2:=hb j;unfold Fe;simp only[qC,qD hj (by grind),qU,ao,hp,hr,aa hi,aa hj];show Fc k c i (zA (s+cell p i j)) _ a b m p=_;rw[hs,zO (by omega) (by omega)];rfl) (s:=0) hk rfl
 unfold Pb;simp_all
def Pc {a b m p}(hb:wP a b m p){i}(hi:i<a.length) j:-72057594037927936≤cell p i j∧cell p i j≤72057594037927936:=by
 by_cases hj:j<a.length
 ·have:=hb.net i hi j hj;simp[gW] at this;omega
 ·have:cell p i j=0:=by
   unfold cell;rw[List.getD_eq_getElem?_getD,List.getElem?_eq_none]
   ·rfl
   ·rw[hb.pr i hi];omega
  omega
def Pd {S X:Type}{L:Nat→Int→S→Option X}{N} ok (e:S→X) b (inv:Nat→S→Prop)(bO:∀n s,inv N s→L (n+1) (N:Int) s=some (e s))
  (aK:∀n i s,i<N→inv i s→(ok i=true→∃s',L (n+1) (i:Int) s=L n ((i+1:Nat):Int) s'∧inv (i+1) s')∧(ok i=false→L (n+1) (i:Int) s=some b)):
  ∀c i n s,i+c=N→c<n→inv i s→(qH ok c i=true∧∃s',L n (i:Int) s=some (e s')∧inv N s')∨(qH ok c i=false∧L n (i:Int) s=some b)
 |0,i,n,s,h,hn,hs=>by
  obtain⟨n,rfl⟩:∃m,n=m+1:=⟨n-1,by omega⟩;have:i=N:=by omega
  subst this;exact .inl ⟨rfl,s,bO n s hs,hs⟩
 |c+1,i,n,s,h,hn,hs=>by
  obtain⟨n,rfl⟩:∃m,n=m+1:=⟨n-1,by omega⟩;obtain⟨h1,h2⟩:=aK n i s (by omega) hs;unfold qH;cases ho:ok i with
  |true=>
   obtain⟨s',h3,h4⟩:=h1 ho;rw[h3];exact Pd ok e b inv bO aK c (i+1) n s' (by omega) (by omega) h4
  |false=>simp_all
def dS (l:List zH)(i j:Nat):Int:=zP (gS i j) l-zP (gS j i) l
def uA (b p:EQ)(l:List zH)(i j:Nat):Bool:= !(decide (zP (gS i j) l>0)&&(!decide (cell b i j= -1)&&decide (cell p i j+dS l i j>cell b i j)))
def gY (a:List yA)(b:EQ)(m:AC)(p:EQ)(l:List zH)(i:Nat):Bool:=
 !decide (zP (gN i) l + zP (gR i) l = 0) && (!qH (uA b p l i) a.length 0 || (decide ((a.getD i ad).1+(a.getD i ad).2.1+zP (gB i) l<0)||
  ((decide (zP (gN i) l>0)&&decide ((a.getD i ad).1+(a.getD i ad).2.1+zP (gB i) l<jJ (a.getD i ad).2.2 (zP (gR i) l)))||
   (!decide (m.getD i 0= -1)&&decide (qJ (cell p i) a.length-zP (gB i) l>m.getD i 0)))))
def Ff {n l}(hl:wJ n l) i j:-70368744177664≤dS l i j∧dS l i j≤70368744177664:=by
 have h1:=uy hl i j;have h2:=uy hl j i;unfold dS;omega
def vIy {k:Nat}{a:List yA}{b:EQ}{m:AC}{p:EQ}{l:List zH}(hk:100<k)(hb:wP a b m p)(hl:wJ a.length l){i:Nat}(hi:i<a.length)(x y n0 dO:Int)
  (DS:-6917529027641081856≤n0∧n0≤6917529027641081856) (qs:-576460752303423488≤dO∧dO≤576460752303423488):
  sS k k l i x y n0 dO 0 a b m p=some (bif qH (uA b p l i) a.length 0 then .inl ((i:Int),x,y,n0-qJ (dS l i) a.length,dO+qJ (dS l i) a.length,a,b,m,p) else .inr true):=by
 have h6:=hb.n6;have bP:l.length<k:=by have:=hl.2;omega
 have := Pd (L := fun c j (s : Int × Int) => sS k c l i x y s.1 s.2 j a b m p) (N := a.length) (uA b p l i) (fun s => .inl ((i : Int), x, y, s.1, s.2, a, b, m, p)) (.inr true) (fun j s => s = (n0 - qJ (dS l i) j, dO + qJ (dS l i) j)) (fun c s hs=>by
   show Fg k _ l i x y s.1 s.2 a.length a b m p=_;unfold Fg;simp only [qU, ab (Nat.lt_irrefl _), ak]) (fun c j s hj hs=>by
   have DU:=xp (fun j=>Ff hl i j) j;have Ei:=Ff hl i j;have hj1:(j:Int)*70368744177664≤6*70368744177664:=by omega
   have qs:=hb.nums.net i hi j hj;have e1:sS k (c+1) l i x y s.1 s.2 j a b m p=bif uA b p l i j then sS k c l i x y (n0-qJ (dS l i) (j+1)) (dO+qJ (dS l i) (j+1)) ((j+1:Nat):Int) a b m p else some (.inr true):=by
    show Fg k _ l i x y s.1 s.2 j a b m p=_;unfold Fg;simp only[qC,qD hj (show a.length<9223372036854775808 by omega),qU,ao,aa hi,aa hj,ag,W1 bP hl,ae,hb.bl,hb.br i hi,hb.pl,hb.pr i hi];have ed:zA (zP (gS i j) l-zP (gS j i) l)=dS l i j:=zO (by have:=Ei.1;unfold dS at this;omega) (by have:=Ei.2;unfold dS at this;omega);rw[ed];have e2:zA (s.1-dS l i j)=n0-qJ (dS l i) (j+1):=by
     rw[hs];show zA (n0-qJ (dS l i) j-dS l i j)=n0-(qJ (dS l i) j+dS l i j);rw[zO (by omega) (by omega)];omega
    have e3:zA (s.2+dS l i j)=dO+qJ (dS l i) (j+1):=by
     rw[hs];show zA (dO+qJ (dS l i) j+dS l i j)=dO+(qJ (dS l i) j+dS l i j);rw[zO (by omega) (by omega)];omega
    rw[e2,e3];show(bif decide (zP (gS i j) l>0) then(bif !decide (cell b i j= -1) then(bif decide (zA (cell p i j+dS l i j)>cell b i j) then _ else _) else _) else _)=_;rw[zO (x:=cell p i j+dS l i j) (by omega) (by omega)];unfold uA;cases decide (zP (gS i j) l>0)<;>cases decide (cell b i j= -1)<;>cases decide (cell p i j+dS l i j>cell b i j)<;>rfl
   refine⟨fun ho=>⟨_,?_,rfl⟩,fun ho=>?_⟩
   ·rw[e1,ho];rfl
   ·rw [e1, ho]; rfl) a.length 0 k (n0, dO) (by omega) (by omega) (by
    show(n0,dO)=(n0-0,dO+0);rw[Int.sub_zero,Int.add_zero])
 rcases this with⟨h1,s,h2,h3⟩|⟨h1,h2⟩
 ·have Pe:sS k k l i x y n0 dO 0 a b m p=_:=h2;rw[Pe,h1,h3];rfl
 ·have Pe:sS k k l i x y n0 dO 0 a b m p=_:=h2;rw[Pe,h1];rfl
def yDj {n l}(hl:∀p∈l,yJ n p) i (hi:i<n):qJ (dS l i) n= -zP (gB i) l:=yNt hl i hi
def yHh {k a b m p l}(hk:100<k)(hb:wP a b m p)(hl:wJ a.length l){i}(hi:i<a.length):Pf k a b m p l i=some (gY a b m p l i):=by
 have h6:=hb.n6;have bP:l.length<k:=by have:=hl.2;omega
 have hN:=yT2 hl i;have hR:=By hl i;have hx:=hb.acct i hi;simp only[fg,bb,aW] at hx;have BA:-4611686018427387904<(a.getD i ad).1∧(a.getD i ad).1<4611686018427387904∧0≤(a.getD i ad).2.1∧(a.getD i ad).2.1≤2305843009213693952∧0≤(a.getD i ad).2.2∧(a.getD i ad).2.2≤2305843009213693952:=by grind
 have qs:=xp (Pc hb hi) a.length;unfold Pf;rw[yTa bP hl];simp only[ae];rw[zO (x:=zP (gN i) l+zP (gR i) l) (by omega) (by omega)];unfold gY;cases hz:decide (zP (gN i) l+zP (gR i) l=0) with
 |true=>rfl
 |false=>
  rw[qC,aa hi];simp only[ao];rw[W3 (by omega) (by omega) hi hb.pl (hb.pr i hi) (Pc hb hi)];simp only[ae];rw[zO (x:=(a.getD i (0,(0,0))).1+(a.getD i (0,(0,0))).2.1) (by omega) (by omega)];rw[vIy hk hb hl hi _ _ _ _ (by omega) (by omega),yDj hl.1 i hi];cases qH (uA b p l i) a.length 0 with
  |false=>rfl
  |true=>
   have hK:=yR5 k (a.getD i ad).1 (a.getD i ad).2.1 (a.getD i ad).2.2 (zP (gR i) l) (by omega) (by omega) hR.1;simp[qC,hb.ml];grind
def vUs {k:Nat}{a:List yA}{b:EQ}{m:AC}{p:EQ}{l:List zH}(hk:100<k)(hb:wP a b m p)(hl:wJ a.length l):∃r,uB k a b m p l=some r∧(r=[]↔qH (fun i=> !gY a b m p l i) a.length 0=true):=by
 have h6:=hb.n6;obtain ⟨r, h1, h2⟩ := yW (L := fun c i (r : AC) => uC k c l i a b m p r) (N := a.length) (fun r => r) (fun i r => (r = [] ↔ ∀ j, j < i → gY a b m p l j = false) ∧ r.length ≤ i) (fun c r hr=>by
   show sU k _ l a.length a b m p r=_;unfold sU;simp only [qU, ab (Nat.lt_irrefl _), ak]) (fun c i r hi hr=>by
   have aO:zL (r.length+1) 8=true:=qI (by omega) (by omega);have e:uC k (c+1) l i a b m p r=uC k c l ((i+1:Nat):Int) a b m p (bif gY a b m p l i then r++[(i:Int)] else r):=by
    show sU k _ l i a b m p r=_;unfold sU;simp only[qD hi (show a.length<9223372036854775808 by omega),qU,aa hi,ag,yHh hk hb hl hi,ae,aO];cases gY a b m p l i<;>rfl
   refine⟨_,e,?_⟩;cases hs:gY a b m p l i with
   |true=>
    refine⟨⟨fun h=>?_,fun h=>?_⟩,by simp only[ag,List.length_append,List.length_cons,List.length_nil];omega⟩
    ·simp at h
    ·rw[h i (Nat.lt_succ_self i)] at hs;cases hs
   |false=>
    refine⟨⟨fun h j hj=>?_,fun h=>?_⟩,by simp only[ak];omega⟩
    ·by_cases c:j=i
     ·subst c;exact hs
     ·exact hr.1.1 h j (by omega)
    ·exact hr.1.2 fun j hj=>h j (by omega)) (s:=[]) (show a.length<k by omega) ⟨⟨fun _ j hj=>absurd hj (Nat.not_lt_zero j),fun _=>rfl⟩,Nat.le_refl 0⟩
 unfold uB;rw[h1];refine⟨r,rfl,h2.1.trans ?_⟩;rw[gE];exact⟨fun h j hj=>by rw[h j hj];rfl,fun h j hj=>by have:=h j hj;simpa using this⟩
def xB (a:List yA)(b:EQ)(m:AC)(p:EQ)(l:List zH):Bool:=(oh a.length l&&decide (l.length≤64))&&qH (fun i=> !gY a b m p l i) a.length 0
def vOs {k a b m p}{l:List zH}(hk:100<k)(hb:wP a b m p)(hl:l.length≤80):Ko k a b m p l=some (xB a b m p l):=by
 unfold Ko xB;rw[yDr (by omega) (by omega)];cases hm:(oh a.length l&&decide (l.length≤64)) with
 |false=>rfl
 |true=>
  simp  at hm;obtain⟨r,h1,h2⟩:=vUs hk hb ⟨Bx.1 hm.1,hm.2⟩;simp_all
def vT0 {k n i p}(hk:n<k)(hn:n≤100)(hi:i<n)(hp:p.length=n)(hr:(p.getD i []).length=n)(hb:∀j,-72057594037927936≤cell p i j∧cell p i j≤72057594037927936)(a:List yA) b m:
  Pg k a b m p i=some (qJ (cell p i) n):=by
 obtain ⟨s, h1, h2⟩ := yW (L := fun c j (s : Int) => Fh k c s (p.getD i []) n j) (N := n) (fun s => s) (fun j s => s = qJ (cell p i) j) (fun c s hs=>by
   show Fi k _ s (p.getD i []) n n=_;unfold Fi;simp) (fun c j s hj hs=>by
   refine⟨qJ (cell p i) (j+1),?_,rfl⟩;show Fi k _ s (p.getD i []) n j=_;have h1:=xp hb j;have h2:=hb j;unfold Fi;simp only[qC,qD hj (by grind),qU,hr,aa hj];show Fh k c (zA (s+cell p i j)) _ _ _=_;rw[hs,zO (by omega) (by omega)];rfl) (s:=0) hk rfl
 unfold Pg;simp[qC];simp_all
def yEf k {n:Nat}(hn:n≤6):Kp k n=some true:=by
 unfold Kp;grind
def vB0 {α:Type}(v z:α) n i (hi:i<n):(List.replicate i v++List.replicate (n-i) z).set i v=List.replicate (i+1) v++List.replicate (n-(i+1)) z:=by
 have e:List.replicate (n-i) z=z::List.replicate (n-(i+1)) z:=by
  rw[show n-i=(n-(i+1))+1 by omega];rfl
 rw[List.set_append_right _ _ (by simp),List.length_replicate,Nat.sub_self,e];simp[List.replicate_succ']
def yFm {k n}(hk:n<k)(hn:n≤6) v:BB k n v=some (List.replicate n v):=by
 unfold BB;rw[yEf k hn];obtain ⟨s, h1, h2⟩ := yW (L := fun c i (s : AC) => Kq k c v n i s) (N := n) (fun s => s) (fun i s => s = List.replicate i v ++ List.replicate (n - i) 0) (fun c s hs=>by
   show Fj k _ v n n s=_;unfold Fj;simp) (fun c i s hi hs=>by
   refine⟨_,?_,rfl⟩;show Fj k _ v n i s=_;have hl:s.length=n:=by grind
   unfold Fj;simp[qC,qD hi (by grind),aa hi,hl];rw[hs,vB0 v 0 n i hi]) (s:=List.replicate n 0) hk (by simp)
 grind
def vW0 {k n}(hk:n<k)(hn:n≤6) v:Fk k n v=some (List.replicate n (List.replicate n v)):=by
 unfold Fk;rw[yEf k hn];obtain ⟨s, h1, h2⟩ := yW (L := fun c i (s : EQ) => Kr k c n v n i s) (N := n) (fun s => s) (fun i s => s = List.replicate i (List.replicate n v) ++ List.replicate (n - i) []) (fun c s hs=>by
   show Fl k _ n v n n s=_;unfold Fl;simp) (fun c i s hi hs=>by
   refine⟨_,?_,rfl⟩;show Fl k _ n v n i s=_;have hl:s.length=n:=by grind
   unfold Fl;simp[qC,qD hi (by grind),aa hi,hl,yFm hk hn];rw[hs,vB0 (List.replicate n v) [] n i hi]) (s:=List.replicate n []) hk (by simp)
 grind
def uD (a:List yA)(b:EQ)(m:AC)(p:EQ)(l:List zH):AC:=((List.range a.length).filter fun i=>gY a b m p l i).map fun(i:Nat)=>(i:Int)
structure Ph (n:Nat) (l:List zH) (r2 r3:AC) (m4:EQ):Prop where
 l2:r2.length=n
 l3:r3.length=n
 l4:m4.length=n
 r4:∀i,i<n→(m4.getD i []).length=n
 more:∀i,i<n→r2.getD i 0=zP (gB i) l
 spent:∀i,i<n→r3.getD i 0=zP (gR i) l
 sent:∀i,i<n→∀j,j<n→cell m4 i j=dS l i j
def Ks (p:zH)(r:AC):AC:=
 let y0:=r.set p.2.1.toNat (zA (r.getD p.2.1.toNat 0-p.2.2.2.1))
 y0.set p.2.2.1.toNat (zA (y0.getD p.2.2.1.toNat 0+p.2.2.2.1))
def Kt (p:zH)(r:AC):AC:=bif !decide (p.2.2.2.2.1=3) then r.set p.2.1.toNat (zA (r.getD p.2.1.toNat 0+p.2.2.2.1)) else r
def W4 {n p}(h:yJ n p){r}(hr:r.length=n){i}(hi:i<n)(hb:∀i,i<n→-4611826755915743232<r.getD i 0∧r.getD i 0<4611826755915743232):(Ks p r).getD i 0=r.getD i 0+gB i p:=by
 obtain⟨f0,f1,t0,t1,ne,a1,a2,c1,c3⟩:=h;obtain⟨f,hf⟩:∃f:Nat,p.2.1=f:=⟨p.2.1.toNat,by omega⟩;obtain⟨t,ht⟩:∃t:Nat,p.2.2.1=t:=⟨p.2.2.1.toNat,by omega⟩;have O4:f≠t:=by omega
 have iA:f<n:=by omega
 have gX:t<n:=by omega
 unfold Ks gB;simp only[hf,ht,ao];have b1:=hb f iA;have b2:=hb t gX;have key:∀x,(r.set f (zA (r.getD f 0-p.2.2.2.1))).getD x 0=if f=x then zA (r.getD f 0-p.2.2.2.1) else r.getD x 0:=by grind
 rw[fM,List.length_set,key t,if_neg O4,key i];by_cases h1:t=i
 ·subst h1;rw[if_pos (by grind),if_pos rfl,if_neg (by omega),zO (by omega) (by omega)];omega
 ·rw[if_neg (by grind),if_neg (c:=((t:Int)=i)) (by omega)];by_cases h2:f=i
  ·subst h2;rw[if_pos rfl,if_pos rfl,zO (by omega) (by omega)];omega
  omega
def vQe {n p}(h:yJ n p){r}(hr:r.length=n){i}(hi:i<n)(hb:∀i,i<n→-4611826755915743232<r.getD i 0∧r.getD i 0<4611826755915743232):(Kt p r).getD i 0=r.getD i 0+gR i p:=by
 obtain⟨f0,f1,t0,t1,ne,a1,a2,c1,c3⟩:=h;obtain⟨f,hf⟩:∃f:Nat,p.2.1=f:=⟨p.2.1.toNat,by omega⟩;have iA:f<n:=by omega
 have b1:=hb f iA;unfold Kt gR;simp only[hf,ao];by_cases hc:p.2.2.2.2.1=3
 ·simp_all
 ·rw[ab hc];simp only[bF,ag];rw[fM];by_cases h2:f=i
  ·subst h2;rw[if_pos (by grind),if_pos (by grind),zO (by omega) (by omega)]
  omega
def vQc l p i j:dS (l++[p]) i j=dS l i j+gS i j p-gS j i p:=by
 unfold dS;rw[mm,mm];dsimp only[zP];omega
def Pj {α:Type} n i (v d:α)(h:i<n):(List.replicate n v).getD i d=v:=by
 simp_all
def W5 {k n l}(hk:100<k)(hn:n≤6)(hl:wJ n l):∃r2 r3 m4,Pk k n l=some (r2,r3,m4)∧Ph n l r2 r3 m4:=by
 have om:=hl.2;have := yW (L := fun c i (s : AC × AC × EQ) => Ku k c l l.length i s.1 s.2.1 s.2.2) (N := l.length) (fun s => s) (fun i s => Ph n (l.take i) s.1 s.2.1 s.2.2) (fun c s hs=>by
   show Fm k _ l l.length l.length s.1 s.2.1 s.2.2=_;unfold Fm;simp) (fun c i s hi hs=>by
   have bR:yJ n (l.getD i pd):=hl.1 _ (fa hi);refine⟨(Ks (l.getD i pd) s.1,Kt (l.getD i pd) s.2.1,xx (l.getD i pd) s.2.2),?_,?_⟩
   ·show Fm k _ l l.length i s.1 s.2.1 s.2.2=_;unfold Fm Ks Kt xx;simp only[qC,qD hi (by grind),qU,ao,aa hi,ag];obtain⟨f0,f1,t0,t1,ne,a1,a2,c1,c3⟩:=bR;obtain⟨f,hf⟩:∃f:Nat,(l.getD i pd).2.1=f:=⟨(l.getD i pd).2.1.toNat,by omega⟩;obtain⟨t,ht⟩:∃t:Nat,(l.getD i pd).2.2.1=t:=⟨(l.getD i pd).2.2.1.toNat,by omega⟩;have iA:f<n:=by omega
    have gX:t<n:=by omega
    have r1:=O3 (x:=zA ((s.2.2.getD f []).getD t 0+(l.getD i pd).2.2.2.1)) (t:=t) hs.l4 hs.r4 iA;simp only[hf,ht,ao,qC,hs.l2,hs.l3,hs.l4,List.length_set,hs.r4 f iA,r1 t gX,aa iA,aa gX,ag];grind
   ·have aR:=hl.take i;have hp := yNo bR hs.l4 hs.r4 (fun i' bJ j' mV=>by
     rw[hs.sent i' bJ j' mV];have:=Ff aR i' j';omega)
    have hbM:∀i',i'<n→-4611826755915743232<s.1.getD i' 0∧s.1.getD i' 0<4611826755915743232:=fun i' bJ=>by
     rw[hs.more i' bJ];have:=WY aR i';omega
    have hbS:∀i',i'<n→-4611826755915743232<s.2.1.getD i' 0∧s.2.1.getD i' 0<4611826755915743232:=fun i' bJ=>by
     rw[hs.spent i' bJ];have:=By aR i';omega
    refine⟨by unfold Ks;simp[hs.l2],by unfold Kt;cases decide ((l.getD i pd).2.2.2.2.1=3)<;>simp[hs.l3],hp.1,hp.2.1,fun i' bJ=>?_,fun i' bJ=>?_,fun i' bJ j' mV=>?_⟩
    ·rw[W4 bR hs.l2 bJ hbM,hs.more i' bJ,←fc l i pd hi,mm];dsimp only[zP];omega
    ·rw[vQe bR hs.l3 bJ hbS,hs.spent i' bJ,←fc l i pd hi,mm];dsimp only[zP];omega
    ·rw[hp.2.2 i' bJ j' mV,hs.sent i' bJ j' mV,←fc l i pd hi,vQc]) (n:=k) (s:=(List.replicate n 0,List.replicate n 0,List.replicate n (List.replicate n 0))) (by omega) ⟨by simp,by simp,by simp,by grind,fun i hi=>by rw[Pj n i _ _ hi];rfl,fun i hi=>by rw[Pj n i _ _ hi];rfl,fun i hi j hj=>by
    unfold cell;rw[Pj n i _ _ hi,Pj n j _ _ hj];rfl⟩
 obtain⟨s,h1,h2⟩:=this;rw[List.take_of_length_le (Nat.le_refl _)] at h2;refine⟨s.1,s.2.1,s.2.2,?_,h2⟩;unfold Pk;rw[yFm (by omega) hn,vW0 (by omega) hn];simp_all
def W6 {k}{l:List zH}(hk:l.length<k)(hl:l.length<9223372036854775808) i:Pl k l i=some (!qH (fun x=> !decide ((l.getD x pd).2.1=i)) l.length 0):=by
 obtain ⟨x, h1, h2⟩ := xn (L := fun c x => Kv k c l l.length x i) (N := l.length) (fun x => decide ((l.getD x pd).2.1 = i)) (fun c=>by
   show Fo k _ l l.length l.length i=_;unfold Fo;simp) (fun c x hx=>by
   show Fo k _ l l.length x i=_;unfold Fo W7;simp[qC,qD hx hl,aa hx]) hk
 unfold Pl W8;grind
def yOo {n:Nat}{l:List zH}(hl:∀p∈l,yJ n p)(i:Nat):qH (fun x=> !decide ((l.getD x pd).2.1=i)) l.length 0=decide (zP (gN i) l+zP (gR i) l=0):=by
 have hN:=xo (g:=gN i) (l:=l) fun p hp=>(O6 (hl p hp) i).1
 have hR:=xo (g:=gR i) (l:=l) fun p hp=>(O1 (hl p hp) i).1
 have e:zP (gN i) l+zP (gR i) l=zP (fun p:zH=>if p.2.1=(i:Int) then p.2.2.2.1 else 0) l:=by
  rw[←yFp];refine Ov fun p hp=>?_
  unfold gN gR;omega
 rw[e];have h:∀(l:List zH),(∀p∈l,yJ n p)→((∀p∈l,¬p.2.1=i)↔zP (fun p:zH=>if p.2.1=(i:Int) then p.2.2.2.1 else 0) l=0):=by
  intro l
  induction l with
  |nil=>intro _;simp[zP]
  |cons q l ih=>
   intro hm;have ih:=ih (by grind);have hq:=hm q (by simp);have h0:0≤zP (fun p:zH=>if p.2.1=i then p.2.2.2.1 else 0) l:=xo fun p hp=>by
    have:=(hm p (by grind)).a1;omega
   unfold zP;by_cases c:q.2.1=i
   ·rw[if_pos c];have:=hq.a1;grind
   simp_all
 have bh:(∀p∈l,¬p.2.1=i)↔qH (fun x=> !decide ((l.getD x pd).2.1=i)) l.length 0=true:=by
  rw[gE];constructor
  ·intro h j hj
   simpa using h _ (fa hj)
  ·intro h p hp;obtain⟨j,hj,rfl⟩:=List.getElem_of_mem hp;have:=h j hj
   simpa[List.getD,hj] using this
 simp_all
def Fp (n Kw:Int):Bool:= !decide (Kw= -1)&&decide (n>Kw)
def yM5 k n Kw:Fq k n Kw=some (Fp n Kw):=by
 unfold Fq Fp;grind
def W9 k b c r s (h:-9223372036854775808≤r-s)(h':r<9223372036854775808)(hs:0≤s):xy k b c r s=some (jJ r s):=by
 unfold xy jJ wN;rw[zO h (by omega),ak];grind
def BC (b p:EQ)(l:List zH)(i:Nat)(short:Bool)(q:zH):Bool:=
 decide (q.2.1=i)&&((decide (q.2.2.2.2.1=3)&&short)||Fp (cell p i q.2.2.1.toNat+dS l i q.2.2.1.toNat) (cell b i q.2.2.1.toNat))
def Xa {k a b m p l}(hk:100<k)(hb:wP a b m p)(hl:wJ a.length l){r2 r3 m4}(hm:Ph a.length l r2 r3 m4){i}(hi:i<a.length) bal cr res n0 (kL:0≤res∧res≤2305843009213693952):
  Pm k l i bal cr res r2 r3 m4 n0 a b m p=some (!qH (fun x=> !BC b p l i (decide (n0<jJ res (zP (gR i) l))) (l.getD x pd)) l.length 0):=by
 have om:=hl.2;have hR:=By hl i;obtain ⟨x, h1, h2⟩ := xn (L := fun c x => Kx k c l l.length x i bal cr res r2 r3 m4 n0 a b m p) (N := l.length) (fun x => BC b p l i (decide (n0 < jJ res (zP (gR i) l))) (l.getD x pd)) (fun c=>by
   show Fs k _ l l.length l.length i bal cr res r2 r3 m4 n0 a b m p=_;unfold Fs;simp) (fun c x hx=>by
   show Fs k _ l l.length x i bal cr res r2 r3 m4 n0 a b m p=_;have bR:yJ a.length (l.getD x pd):=hl.1 _ (by grind);unfold Fs;simp only[qC,qD hx (by grind),qU,ao,aa hx];generalize l.getD x (0,(0,(0,(0,(0,(0,0))))))=q at bR⊢;obtain⟨id,f,t,am,cl,st,ti⟩:=q;obtain⟨f0,f1,t0,t1,ne,a1,a2,c1,c3⟩:=bR;dsimp only at f0 f1 t0 t1 ne a1 a2 c1 c3⊢;obtain⟨t,rfl⟩:∃y:Nat,t=y:=⟨t.toNat,by omega⟩;have gX:t<a.length:=by omega
   unfold Xb BC;cases hf:decide (f=(i:Int)) with
   |false=>simp
   |true=>
    have e1:(r3.getD i 0)=zP (gR i) l:=hm.spent i hi;have e2:(m4.getD i []).getD t 0=dS l i t:=hm.sent i hi t gX;have qs:=hb.nums.net i hi t gX;have hd:=Ff hl i t;have e3:zA ((p.getD i []).getD t 0+dS l i t)=cell p i t+dS l i t:=zO (by show _≤cell p i t+dS l i t;omega) (by show cell p i t+dS l i t<_;omega);simp only[qC,hm.l3,hm.l4,hm.r4 i hi,hb.pl,hb.pr i hi,hb.bl,hb.br i hi,aa hi,aa gX,ao,e1,e2,e3,W9 k bal cr res (zP (gR i) l) (by omega) (by omega) hR.1,ae,yM5];cases decide (cl=3)<;>cases decide (n0<jJ res (zP (gR i) l))<;>rfl) (n:=k) (by omega)
 unfold Pm Xc;grind
def Xd {α g}:∀{l:List α},(∀p∈l,0≤g p)→(0<zP g l↔∃p∈l,0<g p)
 |[],_=>by simp[zP]
 |q::l,h=>by
  have ih:=Xd (g:=g) (l:=l) (by grind);have h0:=xo (g:=g) (l:=l) (by grind);unfold zP;grind
def Pn {N p}:qH p N 0=false↔∃j,j<N∧p j=false:=by
 constructor
 ·apply Classical.byContradiction;intro hn;have:qH p N 0=true:=gE.2 (by grind);simp_all
 ·rintro⟨j,hj,hp⟩
  cases h:qH p N 0 with
  |false=>rfl
  |true=>rw[gE.1 h j hj] at hp;cases hp
def vN1 {a:List yA}{b p l}(hl:wJ a.length l){i}(hi:i<a.length) short:
  (!qH (fun x=> !BC b p l i short (l.getD x pd)) l.length 0)=(!qH (uA b p l i) a.length 0||(decide (zP (gN i) l>0)&&short)):=by
 have hN:=Xd (g:=gN i) (l:=l) fun p hp=>(O6 (hl.1 p hp) i).1
 have hS:=fun j=>Xd (g:=gS i j) (l:=l) fun p hp=>(WX (hl.1 p hp) i j).1
 rw[Bool.eq_iff_iff];simp only[Bool.not_eq_true',Bool.or_eq_true,bb,aW];rw[Pn,Pn];constructor
 ·rintro⟨x,hx,hb⟩
  have bR:=hl.1 _ (fa (d:=pd) hx);have aY:=fa (d:=pd) hx;generalize l.getD x pd=q at hb bR aY;simp only[BC,Bool.not_eq_false',bb,Bool.or_eq_true,aW] at hb;obtain⟨hf,hb⟩:=hb;rcases hb with⟨hc,hs⟩|ho
  ·refine .inr ⟨hN.2 ⟨q,aY,?_⟩,hs⟩;unfold gN;rw[if_pos ⟨hf,hc⟩];have:=bR.a1;omega
  ·have h1:=bR.t0;have h2:=bR.t1;refine .inl ⟨q.2.2.1.toNat,by omega,?_⟩;unfold uA;have lV:zP (gS i q.2.2.1.toNat) l>0:=(hS _).2 ⟨q,aY,by
    unfold gS;rw[if_pos (by grind)];have:=bR.a1;omega⟩
   rw[aa lV];unfold Fp at ho;simp_all
 ·rintro(⟨j,hj,hb⟩|⟨hp,hs⟩)
  ·simp only[uA,Bool.not_eq_false',bb,aW] at hb;obtain⟨lV,ho⟩:=hb;obtain⟨q,hq,hg⟩:=(hS j).1 lV;obtain⟨x,hx,rfl⟩:=List.getElem_of_mem hq;refine⟨x,hx,?_⟩;have e:l.getD x pd=l[x]:=by simp[List.getD,hx]
   rw[e];unfold gS at hg;by_cases c:l[x].2.1=(i:Int)∧l[x].2.2.1=(j:Int)
   ·unfold BC Fp;simp_all
   ·rw[if_neg c] at hg;omega
  ·obtain⟨q,hq,hg⟩:=hN.1 hp;obtain⟨x,hx,rfl⟩:=List.getElem_of_mem hq;refine⟨x,hx,?_⟩;have e:l.getD x pd=l[x]:=by simp[List.getD,hx]
   rw[e];unfold gN at hg;by_cases c:l[x].2.1=(i:Int)∧l[x].2.2.2.2.1=3
   ·unfold BC;simp_all
   ·rw[if_neg c] at hg;omega
def vG1 {k a b m p l}(hk:100<k)(hb:wP a b m p)(hl:wJ a.length l){r2 r3 m4}(hm:Ph a.length l r2 r3 m4){i}(hi:i<a.length)(hs:decide (zP (gN i) l+zP (gR i) l=0)=false):
  Po k r2 r3 m4 a b m p i l=some (gY a b m p l i):=by
 have h6:=hb.n6;have om:=hl.2;have hB:=WY hl i;have hx:=hb.acct i hi;simp only[fg,bb,aW] at hx;have BA:-4611686018427387904<(a.getD i ad).1∧(a.getD i ad).1<4611686018427387904∧0≤(a.getD i ad).2.1∧(a.getD i ad).2.1≤2305843009213693952∧0≤(a.getD i ad).2.2∧(a.getD i ad).2.2≤2305843009213693952:=by grind
 have qs:=xp (Pc hb hi) a.length;have e1:r2.getD i 0=zP (gB i) l:=hm.more i hi;unfold Po;simp only[qC,aa hi,ag,ao,hm.l2,hm.l4,e1,hm.r4 i hi];rw[vT0 (by omega) (by omega) hi hb.pl (hb.pr i hi) (Pc hb hi)];rw[zO (x:=(a.getD i ad).1+(a.getD i ad).2.1) (by omega) (by omega),zO (x:=(a.getD i ad).1+(a.getD i ad).2.1+zP (gB i) l) (by omega) (by omega)];unfold gY;rw[hs];cases hn:decide ((a.getD i ad).1+(a.getD i ad).2.1+zP (gB i) l<0) with
 |true=>simp
 |false=>
  obtain ⟨s, q1, q2⟩ := yW (L := fun c j (s : Int) => BD k c l s (m4.getD i []) a.length j r2 r3 m4 a b m p i (a.getD i ad).1 (a.getD i ad).2.1 (a.getD i ad).2.2 ((a.getD i ad).1 + (a.getD i ad).2.1 + zP (gB i) l)) (N := a.length) (fun s => (l, s, r2, r3, m4, a, b, m, p, (i : Int), (a.getD i ad).1, (a.getD i ad).2.1, (a.getD i ad).2.2, (a.getD i ad).1 + (a.getD i ad).2.1 + zP (gB i) l)) (fun j s => s = qJ (cell p i) a.length + qJ (dS l i) j) (fun c s hs=>by
    show Ft k _ l s (m4.getD i []) a.length a.length r2 r3 m4 a b m p i (a.getD i ad).1 (a.getD i ad).2.1 (a.getD i ad).2.2 ((a.getD i ad).1+(a.getD i ad).2.1+zP (gB i) l)=_;unfold Ft;simp) (fun c j s hj hs=>by
    refine⟨qJ (cell p i) a.length+qJ (dS l i) (j+1),?_,rfl⟩;show Ft k _ l s (m4.getD i []) a.length j r2 r3 m4 a b m p i (a.getD i ad).1 (a.getD i ad).2.1 (a.getD i ad).2.2 ((a.getD i ad).1+(a.getD i ad).2.1+zP (gB i) l)=_;have e2:(m4.getD i []).getD j 0=dS l i j:=hm.sent i hi j hj;have DU:=xp (fun j=>Ff hl i j) j;have Ei:=Ff hl i j;unfold Ft;simp only[qC,qD hj (by grind),qU,ao,hm.r4 i hi,aa hj,ag,e2];rw[hs,zO (x:=qJ (cell p i) a.length+qJ (dS l i) j+dS l i j) (by omega) (by omega),Int.add_assoc];rfl) (n:=k) (s:=qJ (cell p i) a.length) (by omega) (by show _=_+0;omega)
  have q1':BD k k l (qJ (cell p i) a.length) (m4.getD i []) a.length 0 r2 r3 m4 a b m p i (a.getD i ad).1 (a.getD i ad).2.1 (a.getD i ad).2.2 ((a.getD i ad).1+(a.getD i ad).2.1+zP (gB i) l)=_:=q1;simp only[ak,ae];rw[show BD k k l (qJ (cell p i) a.length) (m4.getD i []) a.length 0 r2 r3 m4 a b m p i (a.getD i (0,(0,0))).1 (a.getD i (0,(0,0))).2.1 (a.getD i (0,(0,0))).2.2 ((a.getD i ad).1+(a.getD i ad).2.1+zP (gB i) l)=_ from q1'];simp only[ae,qC,hb.ml,aa hi,ag,ao,yM5];rw[Xa hk hb hl hm hi _ _ _ _ (by grind),vN1 hl hi,q2,yDj hl.1 i hi];have en:qJ (cell p i) a.length+-zP (gB i) l=qJ (cell p i) a.length-zP (gB i) l:=by omega
  rw[en];unfold Fp;grind
def yM0 f i:((List.range (i+1)).filter f).map (fun(x:Nat)=>(x:Int))=(((List.range i).filter f).map fun(x:Nat)=>(x:Int))++(bif f i then[(i:Int)] else[]):=by
 rw[List.range_succ,List.filter_append,List.map_append];grind
def Xe {k a b m p l}(hk:100<k)(hb:wP a b m p)(hl:wJ a.length l):BE k a b m p l=some (uD a b m p l):=by
 have h6:=hb.n6;have om:=hl.2;obtain⟨r2,r3,m4,g1,hm⟩:=W5 hk h6 hl;obtain ⟨r, h1, h2⟩ := yW (L := fun c i (r : AC) => Fu k c l a.length i a b m p r2 r3 m4 r) (N := a.length) (fun r => r) (fun i r => r = ((List.range i).filter fun i => gY a b m p l i).map fun (x : Nat) => (x : Int)) (fun c r hr=>by
   show Fv k _ l a.length a.length a b m p r2 r3 m4 r=_;unfold Fv;simp) (fun c i r hi hr=>by
   have hle:r.length≤i:=by
    grind
   have aO:zL (r.length+1) 8=true:=qI (by omega) (by omega);refine⟨_,?_,rfl⟩;show Fv k _ l a.length i a b m p r2 r3 m4 r=_;unfold Fv;simp only[qD hi (by grind),W6 (show l.length<k by omega) (by omega)];rw[yOo hl.1,yM0,←hr];cases hz:decide (zP (gN i) l+zP (gR i) l=0) with
   |true=>
    have:gY a b m p l i=false:=by unfold gY;simp_all
    simp_all
   |false=>
    rw[vG1 hk hb hl hm hi hz];grind) (n:=k) (s:=[]) (by omega) rfl
 unfold BE;rw[g1];simp;have gz:Fu k k l a.length 0 a b m p r2 r3 m4 []=some r:=h1;rw[gz,h2];rfl
def yT3 {k a b m p l}(hk:100<k)(hb:wP a b m p)(hl:wJ a.length l):uB k a b m p l=some (uD a b m p l):=by
 have h6:=hb.n6;obtain ⟨r, h1, h2⟩ := yW (L := fun c i (r : AC) => uC k c l i a b m p r) (N := a.length) (fun r => r) (fun i r => r = ((List.range i).filter fun i => gY a b m p l i).map fun (x : Nat) => (x : Int)) (fun c r hr=>by
   show sU k _ l a.length a b m p r=_;unfold sU;simp) (fun c i r hi hr=>by
   have hle:r.length≤i:=by
    grind
   have aO:zL (r.length+1) 8=true:=qI (by omega) (by omega);refine⟨_,?_,rfl⟩;show sU k _ l i a b m p r=_;unfold sU;simp[qD hi (by grind),yHh hk hb hl hi];rw[yM0,←hr];grind) (s:=[]) (show a.length<k by omega) rfl
 unfold uB;have gz:uC k k l 0 a b m p []=some r:=h1;rw[gz,h2];rfl
def Xf {a b m p l}:decide (((uD a b m p l).length:Int)=0)=qH (fun i=> !gY a b m p l i) a.length 0:=by
 unfold uD;cases h:qH (fun i=> !gY a b m p l i) a.length 0 with
 |true=>
  rw[gE] at h;simp_all
 |false=>
  apply ab;intro h0;obtain⟨j,hj,hs⟩:=Pn.1 h;simp_all
def vOf {k}{l:List zH}(hk:l.length<k)(hl:l.length<9223372036854775808)(a:List yA) b m p:Pp k l a b m p=some (!oh a.length l):=by
 obtain ⟨x, h1, h2⟩ := xn (L := fun c i => Ky k c l l.length i a b m p) (N := l.length) (fun i => !qq a.length (l.getD i pd)) (fun c=>by
  show Fw k _ l l.length l.length a b m p=_;unfold Fw;simp) (fun c i hi=>by
  show Fw k _ l l.length i a b m p=_;unfold Fw Xg;simp[qC,qD hi hl,aa hi,OZ]) hk
 unfold Pp Xh;unfold oh;grind
def Xi {k a b m p}{l:List zH}(hk:100<k)(hb:wP a b m p)(hl:l.length≤80):BF k a b m p l=some (xB a b m p l):=by
 unfold BF xB;have e:decide ((l.length:Int)≤64)=decide (l.length≤64):=by
  grind
 rw[e,vOf (by omega) (by omega)];cases bS:decide (l.length≤64) with
 |false=>simp
 |true=>
  cases hm:oh a.length l with
  |false=>rfl
  |true=>
   have hr:wJ a.length l:=⟨Bx.1 hm,by grind⟩;simp only[ag,ae,aA,bF,Xe hk hb hr,Xf,Bool.true_and]
def qM (l:List zH):Prop:=List.Pairwise (fun p q=>p.1≠q.1) l
def qM.filter {l}(h:qM l) f:qM (l.filter f):=List.Pairwise.filter f h
def BG {α:Type} f (l:List α) i d (h:i<l.length):(l.take (i+1)).filter f=(l.take i).filter f++(bif f (l.getD i d) then[l.getD i d] else[]):=by
 rw[←fc l i d h,List.filter_append];rfl
def Kz {α X:Type}(d:α){l:List α}{L:Nat→Int→List α→Option X}(f:α→Bool)(e:List α→X)(bO:∀n s,L (n+1) (l.length:Int) s=some (e s))
  (aK:∀n i s,i<l.length→s.length≤i→L (n+1) (i:Int) s=L n ((i+1:Nat):Int) (bif f (l.getD i d) then s++[l.getD i d] else s)) {n:Nat} (hn:l.length<n):
  L n 0 []=some (e (l.filter f)):=by
 obtain ⟨s', h1, h2⟩ := yW (L := L) (N := l.length) e (fun i s => s = (l.take i).filter f) (fun n s _ => bO n s) (fun n i s hi hs=>by
  refine⟨_,aK n i s hi ?_,?_⟩
  ·subst hs;have:=List.length_filter_le f (l.take i);rw[List.length_take] at this;omega
  ·subst hs;rw[BG f l i d hi];cases f (l.getD i d)<;>simp) (s:=[]) hn (by simp)
 rw[h1,h2,List.take_length]
def qT (l:List zH):Prop:=l.length≤1000
def oq {n}(h:n≤1000):zL (n+1) 56=true:=qI (by omega) (by omega)
def ke (t:Int)(p:zH):Bool:=bif decide (t≥p.2.2.2.2.2.1) then decide (t≤p.2.2.2.2.2.2) else false
def Xj {k l}(hk:l.length<k)(hl:qT l) t:Fx k l t=some (l.filter (ke t)):=by
 unfold Fx Xk;have := Kz pd (L := fun n i s => KA k n l l.length i t s) (ke t) id (fun n s=>by
  show Fy k _ l l.length l.length t s=_;unfold Fy;simp) (fun n i s hi hs=>by
  show Fy k _ l l.length i t s=_;unfold Fy Xl Xm;unfold qT at hl;simp[qC,qD hi (by grind),oq (show s.length≤1000 by omega)];unfold ke;grind) hk
 simp_all
def Xn {k l}(hk:l.length<k)(hl:qT l) t:Fz k l t=some (l.filter (ke t)):=by
 unfold Fz;have := Kz pd (L := fun n i s => KB k n l t i s) (ke t) id (fun n s=>by
  show FA k _ l t l.length s=_;unfold FA;simp) (fun n i s hi hs=>by
  show FA k _ l t i s=_;unfold FA Xo;unfold qT at hl;simp[qC,qD hi (by grind),oq (show s.length≤1000 by omega)];unfold ke;grind) hk
 simp_all
def jC (f:Int)(p:zH):Bool:=decide (p.2.1=f)
def Pq {k l}(hk:l.length<k)(hl:qT l) f:uE k l f=some (l.filter (jC f)):=by
 unfold uE;have := Kz pd (L := fun n i s => KC k n l f i s) (jC f) id (fun n s=>by
  show FB k _ l f l.length s=_;unfold FB;simp) (fun n i s hi hs=>by
  show FB k _ l f i s=_;unfold FB;unfold qT at hl;simp[qC,qD hi (by grind),oq (show s.length≤1000 by omega)];unfold jC;grind) hk
 simp_all
def Pr (r:List zH)(p:zH):Bool:=qH (fun x=>decide (((r.filter (jC p.2.1)).getD x pd).2.2.2.2.1=3)) (r.filter (jC p.2.1)).length 0
def Ps (r:List zH)(p:zH):Bool:=decide ((r.filter (jC p.2.1)).getD 0 pd=p)
def sV (r:List zH)(p:zH):Bool:=Ps r p||Pr r p
def vT (l:List zH)(t:Int):List zH:=(l.filter (ke t)).filter (sV (l.filter (ke t)))
def eq7 (p q:zH):((decide (p.1=q.1))&&((decide (p.2.1=q.2.1))&&((decide (p.2.2.1=q.2.2.1))&&((decide (p.2.2.2.1=q.2.2.2.1))&&((decide (p.2.2.2.2.1=q.2.2.2.2.1))&&((decide (p.2.2.2.2.2.1=q.2.2.2.2.2.1))&&(decide (p.2.2.2.2.2.2=q.2.2.2.2.2.2))))))))=decide (p=q):=by
 grind
def vSa {k n:Nat}(s7:Int)(r0 r1 r2:List zH)(hk:r2.length<n)(hl:qT r2):
  FC k n s7 true 0 r0 r1 r2=some (s7,qH (fun x=>decide ((r2.getD x pd).2.2.2.2.1=3)) r2.length 0,r0,r1,r2):=by
 obtain ⟨s', h1, h2⟩ := yW (L := fun n i s => FC k n s7 s i r0 r1 r2) (N := r2.length) (fun s => (s7, s, r0, r1, r2)) (fun i s => s = qH (fun x => decide ((r2.getD x pd).2.2.2.2.1 = 3)) i 0) (fun n s _=>by
  show FD k _ s7 s r2.length r0 r1 r2=_;unfold FD;simp only [qU, ab (Nat.lt_irrefl _), ak]) (fun n i s hi hs=>by
  refine⟨_,?_,rfl⟩;show FD k _ s7 s i r0 r1 r2=_;unfold FD;unfold qT at hl;simp only[qC,qD hi (show r2.length<9223372036854775808 by omega),qU,ao,aa hi,ag];have e:qH (fun x=>decide ((r2.getD x pd).2.2.2.2.1=3)) (i+1) 0=(s&&decide ((r2.getD i pd).2.2.2.2.1=3)):=by
   rw[Bool.eq_iff_iff,hs];simp only[gE,bb,aW];constructor
   ·intro h;exact⟨fun j hj=>h j (by omega),h i (by omega)⟩
   ·rintro⟨h1,h2⟩ j hj
    by_cases c:j=i
    ·subst c;exact h2
    ·exact h1 j (by omega)
  rw[e];cases s<;>rfl) (s:=true) hk rfl
 exact h1.trans (by rw[h2])
def yXv {k l}(hk:l.length<k)(hl:qT l) t:KD k l t=some (vT l t):=by
 unfold KD;rw[Xn hk hl];unfold vT;have dN:(l.filter (ke t)).length≤l.length:=by grind
 generalize l.filter (ke t)=r at dN;unfold qT at hl;have := Kz pd (L := fun n i s => KE k n i r s) (l := r) (sV r) id (fun n s=>by
  show FE k _ r.length r s=_;unfold FE;simp) (fun n i s hi hs=>by
  show FE k _ i r s=_;unfold FE;have wo:(r.filter (jC (r.getD i pd).2.1)).length≤r.length:=by grind
  have tO:0<(r.filter (jC (r.getD i pd).2.1)).length:=by
   apply List.length_pos_of_mem (a:=r.getD i pd);rw[List.mem_filter];exact⟨fa hi,by simp[jC]⟩
  have Xp:=Pq (k:=k) (l:=r) (by omega) (show r.length≤1000 by omega) (r.getD i pd).2.1;have b0:∀n:Nat,zB 0 n=decide (0<n):=fun n=>qC 0 n
  have e7:=eq7 ((r.filter (jC (r.getD i pd).2.1)).getD 0 pd) (r.getD i pd);simp only[ao];rw[Xp];simp only[ae];rw[vSa ((i:Nat):Int) r s _ (by omega) (show _≤1000 by omega)];simp[b0,qC,qD hi (by grind),oq (show s.length≤1000 by omega)];unfold sV Ps Pr;grind) (show r.length<k by omega)
 simp_all
def BH (f:Int)(q:zH):Bool:=decide (q.2.1=f)&& !decide (q.2.2.2.2.1=3)
def vIv {k}{l:List zH}(hk:l.length<k)(hl:l.length<9223372036854775808) i f t a c s e:
  Pt k l i f t a c s e=some (!qH (fun x=> !BH f (l.getD x pd)) l.length 0):=by
 obtain ⟨x, h1, h2⟩ := xn (L := fun n i' => KF k n l l.length i' i f t a c s e) (N := l.length) (fun x => BH f (l.getD x pd)) (fun n=>by
  show FF k _ l l.length l.length i f t a c s e=_;unfold FF;simp) (fun n j hj=>by
  show FF k _ l l.length j i f t a c s e=_;unfold FF Xq;simp[qC,qD hj hl];unfold BH;grind) hk
 unfold Pt Xr;grind
def vO5 (r:List zH)(p:zH):Pr r p=true↔∀q∈r,q.2.1=p.2.1→q.2.2.2.2.1=3:=by
 unfold Pr;rw[gE];constructor
 ·intro h q hq he;have hm:q∈r.filter (jC p.2.1):=List.mem_filter.2 ⟨hq,by simp[jC,he]⟩;obtain⟨i,hi,e⟩:=List.getElem_of_mem hm;have:=h i hi;rw[List.getD_eq_getElem?_getD,List.getElem?_eq_getElem hi,e] at this
  simpa using this
 ·intro h j hj;have hm:=fa (d:=pd) hj;rw[List.mem_filter] at hm;have:=h _ hm.1 (by simpa[jC] using hm.2)
  simpa using this
def Xs (r:List zH)(f:Int):qH (fun x=> !BH f (r.getD x pd)) r.length 0=true↔∀q∈r,q.2.1=f→q.2.2.2.2.1=3:=by
 rw[gE];constructor
 ·intro h q hq he;obtain⟨i,hi,e⟩:=List.getElem_of_mem hq;have:=h i hi;rw[List.getD_eq_getElem?_getD,List.getElem?_eq_getElem hi,e] at this
  simpa[BH,he] using this
 ·intro h j hj;have:=h _ (fa (d:=pd) hj);simp only[BH,Bool.not_eq_true',Bool.and_eq_false_iff,Bool.not_eq_false',aW,decide_eq_false_iff_not];by_cases c:(r.getD j pd).2.1=f
  ·exact .inr (this c)
  ·exact .inl c
def qM.split {r}(h:qM r){i}(hi:i<r.length):∀q∈r.take i,q.1≠(r.getD i pd).1:=by
 intro q hq;have e:r.take (i+1)=r.take i++[r.getD i pd]:=(fc r i pd hi).symm;have hs:qM (r.take (i+1)):=List.Pairwise.sublist (by grind) h;rw[e] at hs;exact(List.pairwise_append.1 hs).2.2 q hq _ (by simp)
def Pu {α:Type} r i (d:α)(hi:i<r.length):r=r.take i++r.getD i d::r.drop (i+1):=by
 simp_all
def vSh {r}(h:qM r){i}(hi:i<r.length):Ps r (r.getD i pd)= !(r.take i).any (jC (r.getD i pd).2.1):=by
 unfold Ps;have e:∀f,jC f (r.getD i pd)=true→r.filter (jC f)=(r.take i).filter (jC f)++r.getD i pd::(r.drop (i+1)).filter (jC f):=by
  intro f hf;have:=congrArg (List.filter (jC f)) (Pu r i pd hi);grind
 have e:=e (r.getD i pd).2.1 (by simp[jC]);rw[e];cases ha:(r.take i).any (jC (r.getD i pd).2.1) with
 |false=>
  have:(r.take i).filter (jC (r.getD i pd).2.1)=[]:=by
   simp_all
  grind
 |true=>
  cases hf:(r.take i).filter (jC (r.getD i pd).2.1) with
  |nil=>
   rw[List.filter_eq_nil_iff] at hf;grind
  |cons q l=>
   have hq:q∈r.take i:=(List.mem_filter.1 (hf▸List.mem_cons_self ..:q∈(r.take i).filter _)).1;have:=h.split hi q hq;grind
def Xt {r}(h:qM r){i}(hi:i<r.length):
  sV r (r.getD i pd)=(!(r.take i).any (jC (r.getD i pd).2.1)||(decide ((r.getD i pd).2.2.2.2.1=3)&&qH (fun x=> !BH (r.getD i pd).2.1 (r.getD x pd)) r.length 0)):=by
 unfold sV;rw[vSh h hi]
 congr 1
 rw[Bool.eq_iff_iff,vO5,bb,Xs,aW];grind
def lookup_cons (f g:Int)(l:List (Int×Bool)):(List.lookup f ((g,true)::l)).getD false=(decide (f=g)||(List.lookup f l).getD false):=by
 rw[List.lookup_cons];by_cases c:f=g
 ·subst c;simp
 ·have:(f==g)=false:=by simpa using c
  rw[this];simp[c]
def vB3 {k:Nat}{l:List zH}(hk:l.length<k)(hl:qT l)(hd:qM l)(t:Int):KG k l t=some (vT l t):=by
 unfold KG;rw[Xj hk hl];simp only[ae];unfold vT;have dN:(l.filter (ke t)).length≤l.length:=List.length_filter_le _ _;have wu:=hd.filter (ke t);generalize l.filter (ke t)=r at dN wu;unfold qT at hl;unfold Xu;obtain ⟨s', h1, h2, h3⟩ := yW (L := fun n i (s : List (Int × Bool) × List zH) => FG k n r r.length i s.1 r s.2) (N := r.length) (fun s => (s.1, r, s.2)) (fun i s => (∀ f, (List.lookup f s.1).getD false = (r.take i).any (jC f)) ∧ s.2 = (r.take i).filter (sV r)) (fun n s _=>by
  show FH k _ r r.length r.length s.1 r s.2=_;unfold FH;simp only [qU, ab (Nat.lt_irrefl _), ak]) (fun n i s hi hs=>by
  refine⟨(((r.getD i pd).2.1,true)::s.1,bif sV r (r.getD i pd) then s.2++[r.getD i pd] else s.2),?_,?_,?_⟩
  ·show FH k _ r r.length i s.1 r s.2=_;unfold FH Xv;have hlen:s.2.length≤i:=by
    rw[hs.2];have:=List.length_filter_le (sV r) (r.take i);rw[List.length_take] at this;omega
   have hc:=vIv (k:=k) (l:=r) (by omega) (by omega) (r.getD i pd).1 (r.getD i pd).2.1 (r.getD i pd).2.2.1 (r.getD i pd).2.2.2.1 (r.getD i pd).2.2.2.2.1 (r.getD i pd).2.2.2.2.2.1 (r.getD i pd).2.2.2.2.2.2;have uk:=hs.1 (r.getD i pd).2.1;have hp:=Xt wu hi;simp only[pd] at hc uk hp⊢;simp only[qC,qD hi (show r.length<9223372036854775808 by omega),qU,ao,aa hi,ag,oq (show s.2.length≤1000 by omega)];rw[hc,uk,hp];generalize (r.take i).any _=x;generalize qH _ _ 0=y;generalize decide ((r.getD i (0,(0,(0,(0,(0,(0,0))))))).2.2.2.2.1=3)=z;cases x<;>cases y<;>cases z<;>rfl
  ·intro f;rw[lookup_cons,hs.1 f,←fc r i pd hi,List.any_append,Bool.or_comm]
   congr 1
   simp only[List.any_cons,List.any_nil,Bool.or_false,jC];rw[Bool.eq_iff_iff];simp only[aW];exact eq_comm
  ·show(bif sV r (r.getD i pd) then s.2++[r.getD i pd] else s.2)=_;rw[hs.2,BG _ _ _ pd hi];cases sV r (r.getD i pd)<;>simp) (s:=([],[])) (show r.length<k by omega) ⟨fun f=>by simp,by simp⟩
 have gz:FG k k r r.length 0 [] r []=some (s'.1,r,s'.2):=h1;rw[gz,h3,List.take_length];rfl
def xC (p:Nat→Bool):Nat→Nat→Option Nat
 |0,_=>none
 |c+1,i=>bif p i then some i else xC p c (i+1)
def Xw:Option Nat→Unit⊕Int
 |some x=>.inr (x:Int)
 |none=>.inl ()
def Xx {L:Nat→Int→Option (Unit⊕Int)}{N:Nat} bad (bO:∀n,L (n+1) (N:Int)=some (.inl ()))
  (aK:∀n i,i<N→L (n+1) (i:Int)=bif bad i then some (.inr (i:Int)) else L n ((i+1:Nat):Int)):
  ∀c i n,i+c=N→c<n→L n (i:Int)=some (Xw (xC bad c i))
 |0,i,n,h,hn=>by
  obtain⟨n,rfl⟩:∃m,n=m+1:=⟨n-1,by omega⟩;have:i=N:=by omega
  subst this;exact bO n
 |c+1,i,n,h,hn=>by
  obtain⟨n,rfl⟩:∃m,n=m+1:=⟨n-1,by omega⟩;rw[aK n i (by omega)];unfold xC;cases hb:bad i with
  |true=>rfl
  |false=>
   exact Xx bad bO aK c (i+1) n (by omega) (by omega)
def yZz {p}:∀{c i x},xC p c i=some x→i≤x∧x<i+c∧p x=true∧∀j,i≤j→j<x→p j=false
 |c+1,i,x,h=>by
  unfold xC at h;cases hp:p i with
  |true=>
   grind
  |false=>
   rw[hp] at h;obtain⟨h1,h2,h3,h4⟩:=yZz h;grind
def yPs {p}:∀{c i},xC p c i=none→∀j,i≤j→j<i+c→p j=false
 |0,_,_=>by grind
 |c+1,i,h=>by
  unfold xC at h;cases hp:p i with
  |true=>
   simp_all
  |false=>
   rw[hp] at h;intro j j1 j2;by_cases e:j=i
   ·simp_all
   ·exact yPs h j (by omega) (by omega)
def wB (l:List zH)(id:Int):Option Nat:=xC (fun x=>decide ((l.getD x pd).1=id)) l.length 0
def kf (l:List zH)(id:Int):Int:=match wB l id with|some x=>(x:Int)|none=>-1
def kR {l id x}(h:wB l id=some x):x<l.length∧(l.getD x pd).1=id:=by
 obtain⟨_,h2,h3,_⟩:=yZz h;simp_all
def vTe {l id}(h:wB l id=none):∀p∈l,p.1≠id:=by
 intro p hp e;obtain⟨i,hi,e'⟩:=List.getElem_of_mem hp;have:=yPs h i (by omega) (by omega);simp_all
def Pv {l p}(h:p∈l):∃x,wB l p.1=some x:=by
 cases e:wB l p.1 with
 |some x=>simp
 |none=>exact absurd rfl (vTe e p h)
def Pw {k}{l:List zH}(hk:l.length<k)(hl:l.length<9223372036854775808) id:nq k l id=some (kf l id):=by
 have := Xx (L := fun n i => FI k n l id i) (N := l.length) (fun x => decide ((l.getD x pd).1 = id)) (fun n=>by
  show FJ k _ l id l.length=_;unfold FJ;simp) (fun n j hj=>by
  show FJ k _ l id j=_;unfold FJ;simp[qC,qD hj hl,aa hj]) l.length 0 k (by omega) hk
 have h1:FI k k l id 0=some (Xw (wB l id)):=this;unfold nq kf;rw[h1];cases wB l id<;>rfl
def BI {k}{l:List zH}(hk:l.length<k)(hl:l.length<9223372036854775808) id:ot k l id=some (kf l id):=by
 have := Xx (L := fun n i => FK k n l l.length i id) (N := l.length) (fun x => decide ((l.getD x pd).1 = id)) (fun n=>by
  show FL k _ l l.length l.length id=_;unfold FL;simp) (fun n j hj=>by
  show FL k _ l l.length j id=_;unfold FL Xy;simp only[qC,qD hj hl,qU,aa hj];rfl) l.length 0 k (by omega) hk
 have h1:FK k k l l.length 0 id=some (Xw (wB l id)):=this;unfold ot Xz kf;rw[h1];cases wB l id<;>rfl
def yF (l:List zH)(x:Nat):List zH:=l.take x++l.drop (x+1)
def ou {l x}(h:x<l.length):(yF l x).length=l.length-1:=by
 unfold yF;grind
def uF l x:List.Sublist (yF l x) l:=by
 unfold yF
 conv=>rhs;rw[←List.take_append_drop x l]
 grind
def qM.cut {l}(h:qM l) x:qM (yF l x):=List.Pairwise.sublist (uF l x) h
def yMx k {l}{x:Nat}(hx:x<l.length)(hl:qT l):KH k l x ((x+1:Nat):Int)=some (yF l x):=by
 unfold KH;have c1:(decide ((0:Int)≤(x:Int)))=true:=by simp
 have c2:decide ((x:Int)≤((x+1:Nat):Int))=true:=aa (by omega);have c3:decide (((x+1:Nat):Int)≤(l.length:Int))=true:=aa (by omega);have c4:decide ((l.length:Int)≤(l.length:Int))=true:=by simp
 have c5:decide ((x:Int)=((x+1:Nat):Int))=false:=ab (by omega);have c6:decide ((x:Int)≤(l.length:Int))=true:=aa (by omega);have c7:decide ((0:Int)≤((x+1:Nat):Int))=true:=aa (by omega);have c8:Nat.ble (x-0) (0+(x+1))=true:=by simp
 simp only[ao,c1,c2,c3,c4,c5,c6,c7,c8,ak];have e0:x-0+(l.length-(x+1))=l.length-1:=by omega
 have e1:List.take (x-0) l++qR l (0+(x+1)) (l.length-(x+1))=yF l x:=by
  unfold qR yF;rw[Nat.sub_zero,Nat.zero_add]
  congr 1
  rw[List.take_of_length_le];rw[List.length_drop];exact Nat.le_refl _
 have e2:(qR (yF l x++List.drop (l.length-1) l) 0 (l.length-1))=yF l x:=by
  unfold qR;rw[List.drop_zero,List.take_append_of_le_length (by rw[ou hx];exact Nat.le_refl _),List.take_of_length_le (by rw[ou hx];exact Nat.le_refl _)]
 have e3:(yF l x++List.drop (l.length-1) l).length=l.length:=by
  rw[List.length_append,List.length_drop,ou hx];omega
 have c9:decide ((0:Int)≤((yF l x).length:Int))=true:=by simp
 have Px:decide (((yF l x).length:Int)≤(l.length:Int))=true:=by grind
 have BJ:decide ((l.length:Int)≤((l.length-0:Nat):Int))=true:=by simp
 have e4:List.take (0+(yF l x).length) (yF l x++List.drop (l.length-1) l)=yF l x:=by
  rw[Nat.zero_add,List.take_append_of_le_length (Nat.le_refl _),List.take_of_length_le (Nat.le_refl _)]
 simp only[e0,e1,e2,e3,c9,Px,BJ,e4,Bool.and_true,ag];rw[List.append_assoc,List.take_append_of_le_length (by rw[ou hx];exact Nat.le_refl _),List.take_of_length_le (by rw[ou hx];exact Nat.le_refl _)]
def iB (l:List zH)(id:Int):List zH×Int×Int×Int×Int×Int×Int×Int×Int:=match wB l id with
 |some x=>(yF l x,(l.getD x pd).1,(l.getD x pd).2.1,(l.getD x pd).2.2.1,(l.getD x pd).2.2.2.1,(l.getD x pd).2.2.2.2.1,(l.getD x pd).2.2.2.2.2.1,(l.getD x pd).2.2.2.2.2.2,0)
 |none=>(l,0,0,0,0,0,0,0,4)
def BK {k l}(hk:l.length<k)(hl:qT l) id:qu k l id=some (iB l id):=by
 unfold qT at hl;unfold qu;rw[BI hk (by omega)];unfold kf iB;cases hp:wB l id with
 |none=>rfl
 |some x=>
  have hx:=(kR hp).1;have e1:decide ((x:Int)<0)=false:=by simp
  have e2:xD k l=some l:=by
   unfold xD;rw[qI (by omega) (by omega)];rfl
  simp only[ae,e1,ak,e2,qD hx (by grind),yMx k hx hl,qC,aa hx,ag,ao]
def jO (q p:zH):Bool:=decide (q.2.1<p.2.1)||(decide (q.2.1=p.2.1)&&decide (q.2.2.2.2.1≤p.2.2.2.2.1))
def kg (q p:zH):Bool:=decide (q.2.1<p.2.1)||(decide (q.2.1=p.2.1)&&decide (q.2.2.2.2.1<p.2.2.2.2.1))
def XA n x y:Py (n+3) [x,y]=some (if x=0 then y else x):=by
 have key:∀n:Nat,KI (n+3) (n+3) 0 [x,y] 2 0=bif !decide (x=0) then some (.inr x) else bif !decide (y=0) then some (.inr y) else some (.inl 0):=fun n=>rfl
 unfold Py;grind
def vXt k a b:KJ k a b=some (if a<b then-1 else if a>b then 1 else 0):=by
 unfold KJ Pz;grind
def XB {k}(hk:3≤k) q p:∃x,FM k q.1 q.2.1 q.2.2.1 q.2.2.2.1 q.2.2.2.2.1 q.2.2.2.2.2.1 q.2.2.2.2.2.2 p.1 p.2.1 p.2.2.1 p.2.2.2.1 p.2.2.2.2.1 p.2.2.2.2.2.1 p.2.2.2.2.2.2=some x∧decide (x≤0)=jO q p∧decide (x<0)=kg q p:=by
 obtain⟨n,rfl⟩:∃n,k=n+3:=⟨k-3,by omega⟩;unfold FM;simp only[vXt,XA];refine⟨_,rfl,?_,?_⟩
 ·unfold jO;grind
 ·unfold kg;grind
def KK (ok:Nat→Bool):Nat→Nat→Nat
 |0,i=>i
 |c+1,i=>bif ok i then KK ok c (i+1) else i
def FN {X:Type}{L:Nat→Int→Option X}{N:Nat} ok (e:Nat→X)(bO:∀n,L (n+1) (N:Int)=some (e N))
  (aK:∀n i,i<N→L (n+1) (i:Int)=bif ok i then L n ((i+1:Nat):Int) else some (e i)):∀c i n,i+c=N→c<n→L n (i:Int)=some (e (KK ok c i))
 |0,i,n,h,hn=>by
  obtain⟨n,rfl⟩:∃m,n=m+1:=⟨n-1,by omega⟩;have:i=N:=by omega
  subst this;exact bO n
 |c+1,i,n,h,hn=>by
  obtain⟨n,rfl⟩:∃m,n=m+1:=⟨n-1,by omega⟩;rw[aK n i (by omega)];unfold KK;cases ok i with
  |false=>rfl
  |true=>exact FN ok e bO aK c (i+1) n (by omega) (by omega)
def FO {α:Type} f (l:List α) d:∀c i,i+c=l.length→KK (fun x=>f (l.getD x d)) c i=i+((l.drop i).takeWhile f).length
 |0,i,h=>by
  rw[List.drop_eq_nil_of_le (by omega)];rfl
 |c+1,i,h=>by
  rw[List.drop_eq_getElem_cons (by grind)];unfold KK;have e:l.getD i d=l[i]:=by grind
  rw[e];cases hf:f l[i] with
  |false=>rw[List.takeWhile_cons_of_neg (by simp[hf])];rfl
  |true=>
   rw[List.takeWhile_cons_of_pos hf,ag,FO f l d c (i+1) (by omega),List.length_cons];omega
def ow {α:Type} f (l:List α):l.take (l.takeWhile f).length=l.takeWhile f∧l.drop (l.takeWhile f).length=l.dropWhile f:=by
 have e:=List.takeWhile_append_dropWhile (p:=f) (l:=l);grind
def BL {α:Type} f (l:List α):(l.takeWhile f).length≤l.length:=(List.takeWhile_sublist f).length_le
def XE {α b} f l (p:α)(hl:l.length≤1000)(hb:b≤1000):ins b l (((l.takeWhile f).length:Nat):Int) [p]=some (l.takeWhile f++(p::l.dropWhile f)):=by
 unfold ins;have h:=BL f l;have hm:(l.length+1)*b≤1001*1000:=Nat.mul_le_mul (by omega) hb;rw[aa (by simp),aa (by grind),qI (by grind) (by omega),ao,(ow f l).1,(ow f l).2];rfl
def pv (l:List zH)(p:zH):List zH:=l.takeWhile (fun q=>jO q p)++(p::l.dropWhile (fun q=>jO q p))
def KL (l:List zH)(p:zH):List zH:=l.takeWhile (fun q=>kg q p)++(p::l.dropWhile (fun q=>kg q p))
def yXj {k l}(hl:qT l):xD k l=some l:=by
 unfold qT at hl;unfold xD;rw[qI (by omega) (by omega)];rfl
def vR7 {k}(hk:3≤k) l (hl:qT l)(bP:l.length<k)(p:zH):KM k k l 0 p=some (l,(((l.takeWhile (fun q=>jO q p)).length:Nat):Int),p):=by
 unfold qT at hl;have := FN (L := fun n i => KM k n l i p) (N := l.length) (fun x => jO (l.getD x pd) p) (fun i => (l, (i : Int), p)) (fun n=>by
  show FP k _ l l.length p=_;unfold FP;simp) (fun n i hi=>by
  show FP k _ l i p=_;unfold FP;obtain⟨x,h1,h2,_⟩:=XB hk (l.getD i pd) p;simp only[qC,qU,ao,aa hi,h1,ae,h2,qD hi (by grind)];rfl) l.length 0 k (by omega) bP
 have e:((0:Nat):Int)=0:=rfl;rw[e] at this;rw[this,FO (fun q=>jO q p) l pd l.length 0 (by omega),List.drop_zero,Nat.zero_add]
def XF {k l}(hk:3≤k)(bP:l.length<k)(hl:qT l)(p:zH):
  xE k l p=some (bif (wB l p.1).isSome then(l,6) else bif decide (40≤l.length) then(l,3) else(pv l p,0)):=by
 have dN:=hl;unfold qT at hl;unfold xE;rw[BI bP (by omega)];unfold kf;cases hp:wB l p.1 with
 |some x=>
  rfl
 |none=>
  by_cases h:40≤l.length
  ·grind
  ·rw[ab h,ab (by grind)];simp[vR7 hk l dN bP,yXj dN,PA];rw[XE _ l p hl (by decide)];rfl
def XG {l x}(h:qT l):qT (yF l x):=by
 unfold qT at*
 have:=(uF l x).length_le;omega
def KN (l:List zH)(id:Int):List zH:=match wB l id with|some x=>yF l x|none=>l
def yQ7 {l id}(hd:qM l):wB (KN l id) id=none:=by
 cases h:wB (KN l id) id with
 |none=>rfl
 |some y=>
  exfalso;obtain⟨h1,h2⟩:=kR h;unfold KN at h h1 h2;cases hp:wB l id with
  |none=>
   rw[hp] at h;rw[hp] at h;cases h
  |some x=>
   rw[hp] at h1 h2;obtain⟨h3,h4⟩:=kR hp;have hm:=fa (d:=pd) h1;have e:=Pu l x pd h3;rw[e] at hd;have KO:=List.pairwise_append.1 hd;have XH:=List.pairwise_cons.1 KO.2.1;rcases List.mem_append.1 hm with hm|hm
   ·exact KO.2.2 _ hm _ (List.mem_cons_self ..) (h2.trans h4.symm)
   ·exact XH.1 _ hm (h4.trans h2.symm)
def vJh {k l}(hk:3≤k)(bP:l.length<k)(hl:qT l)(hd:qM l)(h40:l.length≤40){id x}(hx:wB l id=some x) c:
  FQ k l id c=some (pv (yF l x) ((l.getD x pd).1,(l.getD x pd).2.1,(l.getD x pd).2.2.1,(l.getD x pd).2.2.2.1,c,(l.getD x pd).2.2.2.2.2.1,(l.getD x pd).2.2.2.2.2.2),0):=by
 have dp:=kR hx;have hw:=yQ7 (id:=id) hd;unfold KN at hw;have hlen:=ou dp.1;unfold FQ;rw[BK bP hl];unfold iB;rw[hx];simp;rw[XF hk (by omega) (XG hl)];grind
def vTz {k l}(hk:3≤k)(bP:l.length<k)(hl:qT l)(hd:qM l)(h40:l.length≤40){id x}(hx:wB l id=some x):
  FR k l id=some (pv (yF l x) (l.getD x pd),0):=by
 have dp:=kR hx;have hw:=yQ7 (id:=id) hd;unfold KN at hw;have hlen:=ou dp.1;unfold FR;rw[BK bP hl];unfold iB;rw[hx];simp;rw[XF hk (by omega) (XG hl)];grind
def vPe {k}(hk:3≤k) l (hl:qT l)(bP:l.length<k)(p:zH):KP k k 0 l p=some ((((l.takeWhile (fun q=>kg q p)).length:Nat):Int),l,p):=by
 unfold qT at hl;have := FN (L := fun n i => KP k n i l p) (N := l.length) (fun x => kg (l.getD x pd) p) (fun i => ((i : Int), l, p)) (fun n=>by
  show FT k _ l.length l p=_;unfold FT;simp) (fun n i hi=>by
  show FT k _ i l p=_;unfold FT;obtain⟨x,h1,_,h2⟩:=XB hk (l.getD i pd) p;simp only[qC,qU,ao,aa hi,h1,ae,h2,qD hi (by grind)];rfl) l.length 0 k (by omega) bP
 have e:((0:Nat):Int)=0:=rfl;rw[e] at this;rw[this,FO (fun q=>kg q p) l pd l.length 0 (by omega),List.drop_zero,Nat.zero_add]
def XI {k l}(hk:3≤k)(bP:l.length<k)(hl:qT l){id x}(hx:wB l id=some x):
  FU k l id=some (KL (yF l x) (l.getD x pd),0):=by
 have dN:=hl;unfold qT at hl;have dp:=kR hx;have hlen:=ou dp.1;have e1:decide ((x:Int)<0)=false:=by simp
 unfold FU XJ;rw[BI bP (by omega)];unfold kf;rw[hx];simp only[ae,e1,ak,yXj dN,qD dp.1 (by grind),yMx k dp.1 dN,qC,aa dp.1,ag];rw[vPe hk (yF l x) (XG dN) (by omega)];simp[PA];rw[XE _ (yF l x) _ (by omega) (by decide)];rfl
def idx (l:AC)(id:Int):Nat:=(l.takeWhile (fun x=>decide (x<id))).length
def vK3 {x}(h0:0≤x)(h1:x<9223372036854775808):zA (shr .u64 (IntKind.wrap .u64 (zA x)) 1)=x/2:=by
 have e1:zA x=x:=zO (by omega) h1;have e2:IntKind.wrap .u64 x=x:=by
  unfold IntKind.wrap;simp[IntKind.bits];omega
 rw[e1,e2];have e3:shr .u64 x 1=x/2:=by
  have:(2:Int)^(min (1:Int).toNat (IntKind.bits .u64))=2:=by decide
  grind
 rw[e3];exact zO (by omega) (by omega)
def XK k a b:PB k a b=some (decide (a<b)):=by
 unfold PB PD;simp
def XM {k l id}(hl:l.length≤1000){c:Nat}(hc:c≤l.length)(h1:∀x,x<c→l.getD x 0<id)(h2:∀x,c≤x→x<l.length→id≤l.getD x 0) s6:
  ∀n i j,i≤c→c≤j→j≤l.length→j-i<n→KQ k n l id s6 i j=some (l,id,s6,(c:Int))
 |n+1,i,j,hi,hj,sm,hn=>by
  show PE k (KQ k n) l id s6 i j=_;unfold PE;rw[qU];by_cases oP:i<j
  ·have hh:zA (shr .u64 (IntKind.wrap .u64 (zA ((i:Int)+(j:Int)))) 1)=(((i+j)/2:Nat):Int):=by
    rw[vK3 (by omega) (by omega)];omega
   have hm:(i+j)/2<l.length:=by omega
   rw[aa oP,ag,hh,qC,aa hm,ag,XK];simp only[ae,ao];by_cases bm:(i+j)/2<c
   ·rw[aa (h1 _ bm),ag,qD hm (by omega)];exact XM hl hc h1 h2 s6 n _ j (by omega) hj sm (by omega)
   ·rw[ab (by grind),ak];exact XM hl hc h1 h2 s6 n i _ hi (by omega) (by omega) (by omega)
  grind
def vJ5 {k l id}(bP:l.length<k)(hl:l.length≤1000){c:Nat}(hc:c≤l.length)(h1:∀x,x<c→l.getD x 0<id)(h2:∀x,c≤x→x<l.length→id≤l.getD x 0):
  FV k l id=some ((c:Int),decide (c<l.length)&&decide (l.getD c 0=id)):=by
 unfold FV;have:=XM (k:=k) hl hc h1 h2 (l.length:Int) k 0 l.length (by omega) hc (by simp) (by omega);rw[show((0:Nat):Int)=0 from rfl] at this;rw[this];simp only[ae,qC,ao];by_cases h:c<l.length
 ·simp only[aa h];by_cases h3:l.getD c 0=id
  ·simp_all
  ·rw[ab h3];unfold PF;simp
 grind
def uG (l:AC):Prop:=List.Pairwise (fun a b=>a<b) l
def yP9 {l id}:∀x,x<idx l id→l.getD x 0<id:=by
 intro x hx;unfold idx at hx;have h:=ow (fun x=>decide (x<id)) l;have e:l.getD x 0=(l.takeWhile (fun x=>decide (x<id))).getD x 0:=by
  grind
 have hm:=fa (d:=(0:Int)) hx;have:=List.all_eq_true.1 (List.all_takeWhile (p:=fun x=>decide (x<id)) (l:=l)) _ hm;simp_all
def yL0 {l}(ha:uG l){id}:∀x,idx l id≤x→x<l.length→id≤l.getD x 0:=by
 intro x hx hl;have hi:idx l id<l.length:=by omega
 have h:=ow (fun x=>decide (x<id)) l;have h0:¬l.getD (idx l id) 0<id:=by
  have hd:l.drop (idx l id)=l[idx l id]::l.drop (idx l id+1):=by simp
  have h2:=h.2;unfold idx at hd;rw[h2] at hd;have bo:l.dropWhile (fun x=>decide (x<id))≠[]:=by rw[hd];simp
  have:=List.head_dropWhile_not (fun x=>decide (x<id)) bo;have e:(l.dropWhile (fun x=>decide (x<id))).head bo=l[idx l id]:=by
   unfold idx;simp_all
  simp_all
 by_cases e:x=idx l id
 ·rw[e];omega
 ·have:=List.pairwise_iff_getElem.1 ha (idx l id) x hi hl (by omega);grind
def vHh {l}(ha:uG l) id:(decide (idx l id<l.length)&&decide (l.getD (idx l id) 0=id))=decide (id∈l):=by
 by_cases hm:id∈l
 ·obtain⟨x,hx,e⟩:=List.getElem_of_mem hm;have e':l.getD x 0=id:=by simp_all
  have h1:¬x<idx l id:=fun h=>by have:=yP9 x h;omega
  have h3:idx l id<l.length:=by omega
  have h4:¬idx l id<x:=fun h=>by
   have g1:=yL0 ha (id:=id) (idx l id) (by simp) h3;have g2:=List.pairwise_iff_getElem.1 ha (idx l id) x h3 hx h;grind
  grind
 grind
def qw (l:AC)(id:Int):AC:=l.takeWhile (fun x=>decide (x<id))++(id::l.dropWhile (fun x=>decide (x<id)))
def vAb {k l}(bP:l.length<k)(hl:l.length≤1000)(ha:uG l) id:FV k l id=some ((idx l id:Int),decide (id∈l)):=by
 rw[vJ5 bP hl (BL _ l) yP9 (yL0 ha)];show some ((idx l id:Int),decide (idx l id<l.length)&&decide (l.getD (idx l id) 0=id))=_;rw[vHh ha]
def vPj {k l}(bP:l.length<k)(hl:l.length≤1000)(ha:uG l) id:PG k l id=some (decide (id∈l)):=by
 unfold PG;rw[vAb bP hl ha];rfl
def vUl {k l}(bP:l.length<k)(hl:l.length≤1000)(ha:uG l) id:
  FW k l id=some (bif decide (id∈l) then(l,6) else bif decide (200≤l.length) then(l,3) else(qw l id,0)):=by
 unfold FW;rw[vAb bP hl ha];by_cases hm:id∈l
 ·simp_all
 ·rw[ab hm];by_cases h:200≤l.length
  ·grind
  ·rw[ab h,ab (by grind)];have e2:qp k l=some l:=by
    unfold qp;rw[qI (by omega) (by omega)];rfl
   simp[e2,yWf];unfold idx;rw[XE _ l id hl (by decide)];rfl
def iS (l:AC):Int:=zP (fun x=>x) l
def xF (x:Int):Bool:=decide (-9223372036854775808≤x)&&decide (x<9223372036854775808)
def yJ0 x:shr .i64 x 63=x/9223372036854775808:=by
 show x.fdiv (2^(min 63 64))=_;grind
def qx x:IntKind.wrap .u64 x=x%18446744073709551616:=by
 rfl
def vN8 {x}(h:0≤x∧x<18446744073709551616):zA x=if x<9223372036854775808 then x else x-18446744073709551616:=by
 unfold zA IntKind.wrap;simp[IntKind.bits,IntKind.signed];grind
def vZ5 (l:AC) i (hi:i<l.length):iS (l.take (i+1))=iS (l.take i)+l.getD i 0:=by
 have:l.take (i+1)=l.take i++[l.getD i 0]:=by
  simp_all
 unfold iS;rw[this,mm];simp[zP]
def yJp {k l}(hk:l.length<k)(hl:l.length≤1000000)(hw:∀i,i<l.length→-9223372036854775808≤l.getD i 0∧l.getD i 0<9223372036854775808):
  FX k l=some (bif xF (iS l) then(iS l,true) else(0,false)):=by
 obtain ⟨s', g1, g2, g3, g4⟩ := yW (L := fun n i (s : Int × Int) => FY k n s.1 s.2 l (l.length : Int) i) (N := l.length) (fun s => (s.1, s.2)) (fun i s => (0 ≤ s.2 ∧ s.2 < 18446744073709551616) ∧ s.1 * 18446744073709551616 + s.2 = iS (l.take i) ∧ (-(i : Int) ≤ s.1 ∧ s.1 ≤ i)) (fun n s _=>by
  show FZ k _ s.1 s.2 l l.length l.length=_;unfold FZ;simp only [qU, ab (Nat.lt_irrefl _), ak]) (fun n i s hi hs=>by
  obtain⟨h,lo⟩:=s;obtain⟨⟨h1,h2⟩,h3,h4⟩:=hs;simp only at h1 h2 h3 h4;show∃s',FZ k _ h lo l l.length i=_∧_;unfold FZ Ek;have hb:=hw i hi;have xG:=vZ5 l i hi;obtain⟨v,hv⟩:∃v,l.getD i 0=v:=⟨_,rfl⟩;rw[hv] at hb xG;simp only[qU,qC,ao,aa hi,ag,hv,qx,yJ0,decide_true,ae,qD hi (show l.length<9223372036854775808 by omega)];obtain⟨u,hu⟩:∃u,v%18446744073709551616=u:=⟨_,rfl⟩;rw[hu];obtain⟨q,hq⟩:∃q,v/9223372036854775808=q:=⟨_,rfl⟩;rw[hq];have se:u=v-q*18446744073709551616:=by omega
  have pw:q=0∨q= -1:=by omega
  obtain⟨a,ha⟩:∃a:Nat,lo.toNat+u.toNat+0=a:=⟨_,rfl⟩;rw[ha];have rY:(a:Int)=lo+u:=by omega
  obtain⟨c,hc⟩:∃c:Nat,a/18446744073709551616=c:=⟨_,rfl⟩;obtain⟨m,hm⟩:∃c:Nat,a%18446744073709551616=c:=⟨_,rfl⟩;rw[hc,hm];have hcm:a=c*18446744073709551616+m:=by omega
  have me:m<18446744073709551616:=by omega
  have lS:c≤1:=by omega
  have e1:zA (Int.ofNat c)=(c:Int):=zO (by show(_:Int)≤((c:Nat):Int);omega) (by show((c:Nat):Int)<_;omega);have e2:zA (q+(c:Int))=q+c:=zO (by omega) (by omega);have e3:zA (h+(q+(c:Int)))=h+(q+c):=zO (by omega) (by omega);rw[e1,e2,e3];refine⟨(h+(q+c),(m:Int)),rfl,by grind,?_,?_⟩
  ·rw[xG];show(h+(q+c))*18446744073709551616+(m:Int)=_;omega
  ·show-((i+1:Nat):Int)≤h+(q+c)∧h+(q+c)≤((i+1:Nat):Int);omega) (s:=(0,0)) hk ⟨⟨by show(0:Int)≤0;omega,by show(0:Int)<_;omega⟩,rfl,by show-((0:Nat):Int)≤0;omega,by show(0:Int)≤((0:Nat):Int);omega⟩
 have BM:FY k k 0 0 l (l.length:Int) 0=some (s'.1,s'.2):=g1;rw[List.take_length] at g3;unfold FX;rw[BM];simp only[ae,yJ0];rw[vN8 g2];by_cases c:xF (iS l)=true
 ·have c':-9223372036854775808≤iS l∧iS l<9223372036854775808:=by simpa[xF] using c
  rw[c];by_cases d:s'.2<9223372036854775808
  ·rw[if_pos d,aa (show s'.1=s'.2/9223372036854775808 by omega)];simp only[aA,ak,ag];rw[show s'.2=iS l by omega]
  ·rw[if_neg d,aa (show s'.1=(s'.2-18446744073709551616)/9223372036854775808 by omega)];simp only[aA,ak,ag];rw[show s'.2-18446744073709551616=iS l by omega]
 ·have c':¬(-9223372036854775808≤iS l∧iS l<9223372036854775808):=by simpa[xF] using c
  rw[Bool.not_eq_true] at c;rw[c];by_cases d:s'.2<9223372036854775808
  ·rw[if_pos d,ab (show¬s'.1=s'.2/9223372036854775808 by omega)];rfl
  ·rw[if_neg d,ab (by grind)];rfl
def XN {x}(h:0≤x):yN .u64 x 4294967295=x%4294967296:=by
 obtain⟨n,rfl⟩:=Int.eq_ofNat_of_zero_le h;unfold yN tB;rw[qx];have e1:(BitVec.ofInt IntKind.u64.bits (n:Int)&&&BitVec.ofInt IntKind.u64.bits 4294967295).toNat=n%4294967296:=by
  rw[BitVec.toNat_and,BitVec.toNat_ofInt,BitVec.toNat_ofInt];have e2:((4294967295:Int)%((2^IntKind.u64.bits:Nat):Int)).toNat=2^32-1:=by decide
  rw[e2,Nat.and_two_pow_sub_one_eq_mod];have e3:((n:Int)%((2^IntKind.u64.bits:Nat):Int)).toNat=n%18446744073709551616:=by
   rfl
  omega
 grind
def vS8 x:shr .u64 x 32=x/4294967296:=by
 show x.fdiv (2^(min 32 64))=_;grind
def vX4 {a1 a0 b1 b0:Int}:(a1*4294967296+a0)*(b1*4294967296+b0)=a1*b1*18446744073709551616+(a1*b0+a0*b1)*4294967296+a0*b0:=by
 grind
def wG {a b A B:Int}(h0:0≤a)(h1:a≤A)(g0:0≤b)(g1:b≤B):0≤a*b∧a*b≤A*B:=
 ⟨Int.mul_nonneg h0 g0,Int.mul_le_mul h1 g1 g0 (by omega)⟩
def vEh (k:Nat){x y:Int}(hx:0≤x∧x<18446744073709551616)(hy:0≤y∧y<18446744073709551616):KR k x y=some (x*y/18446744073709551616,x*y%18446744073709551616):=by
 unfold KR;simp only[vS8,XN hx.1,XN hy.1,qx];obtain⟨a1,h1⟩:∃a,x/4294967296=a:=⟨_,rfl⟩;obtain⟨a0,h0⟩:∃a,x%4294967296=a:=⟨_,rfl⟩;obtain⟨b1,g1⟩:∃a,y/4294967296=a:=⟨_,rfl⟩;obtain⟨b0,g0⟩:∃a,y%4294967296=a:=⟨_,rfl⟩;have hxe:x=a1*4294967296+a0:=by omega
 have hye:y=b1*4294967296+b0:=by omega
 rw[h1,h0,g1,g0];have BN:0≤a1∧a1≤4294967295:=by omega
 have nN:0≤a0∧a0≤4294967295:=by omega
 have fG:0≤b1∧b1≤4294967295:=by omega
 have F0:0≤b0∧b0≤4294967295:=by omega
 have p11:=wG BN.1 BN.2 fG.1 fG.2;have um:=wG BN.1 BN.2 F0.1 F0.2;have p01:=wG nN.1 nN.2 fG.1 fG.2;have p00:=wG nN.1 nN.2 F0.1 F0.2;have O8:x*y=a1*b1*18446744073709551616+(a1*b0+a0*b1)*4294967296+a0*b0:=by rw[hxe,hye,vX4]
 rw[O8];generalize a1*b1=u at*
 generalize a1*b0=v at*
 generalize a0*b1=s at*
 generalize a0*b0=t at*
 have c1:(t%18446744073709551616)=t:=by omega
 have c2:(v%18446744073709551616+t/4294967296)%18446744073709551616=v+t/4294967296:=by omega
 rw[c1,c2];have KS:yN .u64 (v+t/4294967296) 4294967295=(v+t/4294967296)%4294967296:=XN (by omega);rw[KS];refine congrArg some (Prod.ext ?_ ?_)
 ·show _%_=_/_;omega
 ·rfl
def vIs k {x}(hx:0≤x∧x<18446744073709551616):PH k 0 x 10000=some (x/10000,x%10000):=by
 unfold PH;have e1:decide ((10000:Int)=0)=false:=rfl;have e2:decide ((10000:Int)≤0)=false:=rfl;simp[qx];grind
def uH (price many cut:Int):Int:=price*many*(10000-cut)/10000
def yJ7 {p m c}(hp:0≤p∧p≤1048576)(hm:0≤m∧m≤1099511627776)(hc:0≤c∧c≤10000):0≤uH p m c∧uH p m c≤1152921504606846976:=by
 have h1:=wG hp.1 hp.2 hm.1 hm.2;have h2:=wG h1.1 h1.2 (by grind) (show 10000-c≤10000 by omega);unfold uH;omega
def vHl k {p m c}(hp:0≤p∧p≤1048576)(hm:0≤m∧m≤1099511627776)(hc:0≤c∧c≤10000):PI k p m c=some (uH p m c,true):=by
 unfold PI XO;have w1:zA (10000-c)=10000-c:=zO (by omega) (by omega);have e1:decide (p<0)=false:=ab (by omega);have e2:decide (m<0)=false:=ab (by omega);have e3:decide (c≥0)=true:=aa (by omega);have e4:decide (c≤10000)=true:=aa (by omega);have u1:p%18446744073709551616=p:=by omega
 have u2:m%18446744073709551616=m:=by omega
 have u3:(10000-c)%18446744073709551616=10000-c:=by omega
 have h1:=wG hp.1 hp.2 hm.1 hm.2;have hP:p*m/18446744073709551616=0:=by omega
 have hP2:p*m%18446744073709551616=p*m:=by omega
 have t0:Int.tmod 0 10000=0:=by simp
 have t1:Int.tdiv 0 10000=0:=by simp
 rw[e1,e2,e3,e4,ak,ak,ag,ae,aA,ak,qx p,qx m,u1,u2,vEh k (by grind) (by grind),ae,hP,hP2];dsimp only;rw[t0,t1,vIs k (by grind),ae];dsimp only;rw[w1,qx (10000-c),u3];unfold uH;obtain⟨l,hl⟩:∃l,10000-c=l:=⟨_,rfl⟩;rw[hl];obtain⟨P,hPe⟩:∃P,p*m=P:=⟨_,rfl⟩;rw[hPe] at h1⊢;have dN:0≤l∧l≤10000:=by omega
 rw[vEh k (by grind) (by grind)];have hq:=wG (show 0≤P/10000 by omega) (show P/10000≤115292150460684 by omega) dN.1 dN.2;have hr:=wG (show 0≤P%10000 by omega) (show P%10000≤9999 by omega) dN.1 dN.2;have BO:P*l=P/10000*l*10000+P%10000*l:=by
  grind
 rw[BO];generalize P/10000*l=a at*
 generalize P%10000*l=b at*
 have v1:a/18446744073709551616=0:=by omega
 have v2:a%18446744073709551616=a:=by omega
 have v3:b%18446744073709551616=b:=by omega
 have v4:Int.tdiv b 10000=b/10000:=Int.tdiv_eq_ediv_of_nonneg hr.1;have v5:b/10000%18446744073709551616=b/10000:=by omega
 have ha:Ek k a (b/10000) 0=some (a+b/10000,0):=by
  have n1:(Int.ofNat ((a.toNat+(b/10000).toNat+0)%18446744073709551616))=a+b/10000:=by rw[Int.ofNat_eq_natCast];omega
  have n2:(Int.ofNat ((a.toNat+(b/10000).toNat+0)/18446744073709551616))=0:=by rw[Int.ofNat_eq_natCast];omega
  unfold Ek;rw[aa rfl,ag,n1,n2]
 rw[ae];dsimp only;rw[v1,v2,qx b,v3,v4,qx (b/10000),v5,ha,ae];dsimp only;have z1:IntKind.wrap .u64 0=0:=by rw[qx];omega
 have z2:IntKind.wrap .u64 (0+0)=0:=by rw[qx];omega
 have z5:zA (a+b/10000)=a+b/10000:=zO (by omega) (by omega);grind
abbrev px:=Int×Int
abbrev uI:px:=(0,0)
def oz (sa:List px)(pr h:AC)(i:Nat):Int:=uH (pr.getD i 0) (h.getD i 0) (sa.getD i uI).2
def mo (sa:List px)(pr h:AC):Int:=qJ (oz sa pr h) sa.length
structure kS (sa:List px) (pr h:AC):Prop where
 n3:sa.length≤3
 pl:pr.length=sa.length
 hl:h.length=sa.length
 cut:∀i,i<sa.length→0≤(sa.getD i uI).2∧(sa.getD i uI).2≤10000
 price:∀i,i<sa.length→0≤pr.getD i 0∧pr.getD i 0≤1048576
 hold:∀i,i<sa.length→0≤h.getD i 0∧h.getD i 0≤1099511627776
def KT {sa pr h}(L:kS sa pr h){i}(hi:i<sa.length):0≤oz sa pr h i∧oz sa pr h i≤1152921504606846976:=yJ7 (L.price i hi) (L.hold i hi) (L.cut i hi)
def XP g:∀n,iS ((List.range n).map g)=qJ g n
 |0=>rfl
 |n+1=>by
  rw[List.range_succ,List.map_append];unfold iS;rw[mm];have:=XP g n;unfold iS at this;rw[this];show qJ g n+(g n+0)=qJ g n+g n;omega
def PJ {g A}:∀{n},(∀j,j<n→0≤g j∧g j≤A)→0≤qJ g n∧qJ g n≤n*A
 |0,_=>by simp[qJ]
 |n+1,h=>by
  have h1:=PJ (n:=n) (fun j hj=>h j (by omega));have h2:=h n (by omega);have h3:((n+1:Nat):Int)*A=n*A+A:=by grind
  show 0≤qJ g n+g n∧qJ g n+g n≤_;omega
def vIb {k:Nat}{sa:List px}{pr h:AC}(L:kS sa pr h)(hk:10≤k):F1 k k pr h sa sa.length 0 []=some (.inl ((List.range sa.length).map (oz sa pr h))):=by
 have hn:=L.n3;obtain ⟨s', h1, h2⟩ := yW (L := fun n i (s : AC) => F1 k n pr h sa sa.length i s) (N := sa.length) (fun s => .inl s) (fun i s => s = (List.range i).map (oz sa pr h)) (fun n s _=>by
  show F2 k _ pr h sa sa.length sa.length s=_;unfold F2;simp only [qU, ab (Nat.lt_irrefl _), ak]) (fun n i s hi hs=>by
  refine⟨s++[oz sa pr h i],?_,?_⟩
  ·show F2 k _ pr h sa sa.length i s=_;unfold F2;have eX:s.length≤3:=by rw[hs,List.length_map,List.length_range];omega
   have hw:=vHl k (L.price i hi) (L.hold i hi) (L.cut i hi);simp only[qU,qC,ao,aa hi,aa (show i<pr.length by rw[L.pl];exact hi),aa (show i<h.length by rw[L.hl];exact hi),ag,qD hi (show sa.length<9223372036854775808 by omega)];rw[hw];simp only[ae,aA,ak,qI (show(s.length+1)*8≤140737488355328 by omega) (show s.length+1≤140737488355328 by omega),ag];rfl
  ·rw[hs,List.range_succ,List.map_append];rfl) (s:=[]) (show sa.length<k by omega) rfl
 have gz:F1 k k pr h sa sa.length 0 []=_:=h1;rw[gz,h2]
def XQ {k sa pr h}(L:kS sa pr h)(hk:10≤k):sW k sa pr h=some (mo sa pr h,true):=by
 have hn:=L.n3;have hb:=PJ (g:=oz sa pr h) (n:=sa.length) (fun j hj=>KT L hj);unfold sW;have e1:decide ((pr.length:Int)=(sa.length:Int))=true:=aa (by rw[L.pl]);have e2:decide ((h.length:Int)=(sa.length:Int))=true:=aa (by rw[L.hl]);simp[e1,e2];rw[vIb L hk];simp;rw [yJp (by grind) (by grind) (fun i hi=>by
  rw[List.length_map,List.length_range] at hi;have:=KT L hi;grind)]
 rw[XP];have e3:xF (qJ (oz sa pr h) sa.length)=true:=by
  unfold xF;grind
 rw[e3];rfl
def F3 {sa pr h}(L:kS sa pr h):0≤mo sa pr h:=(PJ (g:=oz sa pr h) (n:=sa.length) (fun j hj=>KT L hj)).1
def yGr {k l}(hl:l.length≤1000){i}(h0:0≤i)(h1:i<l.length) v:qy k l i v=some (l.set i.toNat v):=by
 unfold qy;have e2:qp k l=some l:=by
  unfold qp;rw[qI (by omega) (by omega)];rfl
 simp[e2,aa (show i≥0 by omega),aa h1,ag,wX h0 h1]
def PK {a b m p l r}(hb:wP a b m p)(h:sR a b m p l r):
  qJ (fun i=>(r.1.getD i ad).1) a.length=qJ (fun i=>(a.getD i ad).1) a.length∧wP r.1 r.2.1 r.2.2.1 r.2.2.2.1∧(r.2.2.2.2=0∨(r.1=a∧r.2.1=b∧r.2.2.1=m∧r.2.2.2.1=p)):=by
 by_cases c:wJ a.length l
 ·obtain⟨a',p',x,e⟩:=h.1 c;cases hi:np a' b m p' with
  |false=>
   simp_all
  |true=>
   rw[hi] at e;subst e;refine⟨?_,OW.1 hi,.inl rfl⟩;have e1:qJ (fun i=>(a'.getD i ad).1) a.length=qJ (fun i=>(a.getD i ad).1+zP (gB i) l) a.length:=sM fun j hj=>by rw[x.acct j hj]
   show qJ (fun i=>(a'.getD i ad).1) a.length=_;rw[e1,En,Ow];have e2:zP (fun p=>qJ (fun j=>gB j p) a.length) l=zP (fun _=>(0:Int)) l:=Ov fun p hp=>by
    obtain⟨f0,f1,t0,t1,ne,a1,a2,c1,c3⟩:=c.1 p hp;obtain⟨f,hf⟩:∃f:Nat,p.2.1=f:=⟨p.2.1.toNat,by omega⟩;obtain⟨t,ht⟩:∃t:Nat,p.2.2.1=t:=⟨p.2.2.1.toNat,by omega⟩;have g1:∀j,gB j p=(if j=t then p.2.2.2.1 else 0)+(if j=f then-p.2.2.2.1 else 0):=by
     unfold gB;omega
    rw[sM fun j _=>g1 j,En,Bn,Bn,if_pos (by omega),if_pos (by omega)];omega
   have e3:∀l:List zH,zP (fun _:zH=>(0:Int)) l=0:=by
    intro l
    induction l with
    |nil=>rfl
    |cons p l ih=>show 0+zP _ l=0;omega
   simp_all
 ·have e:=h.2 c;simp_all
abbrev BT:=List yA×EQ×AC×EQ
def qP (B:BT):Prop:=wP B.1 B.2.1 B.2.2.1 B.2.2.2
def F4 {k}(hk:100<k){B}(h:qP B){l:List zH}(hl:l.length≤80):
  ∃r,qt k B.1 B.2.1 B.2.2.1 B.2.2.2 l=some r∧Bz k B.1 B.2.1 B.2.2.1 B.2.2.2 l=some r∧sR B.1 B.2.1 B.2.2.1 B.2.2.2 l r:=by
 obtain⟨r,h1,h2⟩:=O9 hk h hl;obtain⟨r',h3,h4⟩:=vU4 hk h hl;have:=h2.same h4;simp_all
def xH (B:BT)(l:List zH):Bool:=xB B.1 B.2.1 B.2.2.1 B.2.2.2 l
def iC (k:Nat)(B:BT)(l:List zH):Option BT:=match qt k B.1 B.2.1 B.2.2.1 B.2.2.2 l with
 |some r=>bif decide (r.2.2.2.2=0)&&xH B l then some (r.1,r.2.1,r.2.2.1,r.2.2.2.1) else none
 |none=>none
def sX {k}(hk:100<k){B C}(h:qP B){l}(hl:l.length≤80)(hg:iC k B l=some C):qP C∧C.1.length=B.1.length:=by
 obtain⟨r,h1,h2,h3⟩:=F4 hk h hl;unfold iC at hg;rw[h1] at hg;simp only at hg;cases hc:decide (r.2.2.2.2=0)&&xH B l with
 |false=>
  simp_all
 |true=>
  rw[hc] at hg;simp  at hg;subst hg;refine⟨(PK h h3).2.1,?_⟩;by_cases c:wJ B.1.length l
  ·obtain⟨a',p',x,e⟩:=h3.1 c;cases hi:np a' B.2.1 B.2.2.1 p' with
   |false=>simp_all
   |true=>rw[hi] at e;subst e;exact x.al
  ·rw[h3.2 c]
def eu (k:Nat)(B:BT):List zH→Option (zH×BT)
 |[]=>none
 |p::l=>match iC k B [p] with
  |some C=>some (p,C)
  |none=>eu k B l
def BP {k B C p}:∀{l},eu k B l=some (p,C)→p∈l∧iC k B [p]=some C
 |q::l,h=>by
  unfold eu at h;cases hg:iC k B [q] with
  |some D=>
   simp_all
  |none=>
   rw[hg] at h;have:=BP h;simp_all
def yFq k B {m:List zH}{i}(hi:i<m.length):eu k B (m.drop i)=match iC k B [m.getD i pd] with
  |some C=>some (m.getD i pd,C)
  |none=>eu k B (m.drop (i+1)):=by
 rw[List.drop_eq_getElem_cons hi];have e:m.getD i pd=m[i]:=by simp_all
 rw[e];rfl
def PM l t:(vT l t).length≤l.length:=Nat.le_trans (List.length_filter_le _ _) (by grind)
def vWp m i (hi:i<m.length):qR m (0+i) (i+1-i)=[m.getD i pd]:=by
 unfold qR;rw[Nat.zero_add,show i+1-i=1 by omega,List.drop_eq_getElem_cons hi,List.getD_eq_getElem?_getD,List.getElem?_eq_getElem hi];rfl
def ft (l:List zH)(id:Int):List zH:=(iB l id).1
def uJ {l p}(h:p∈l):(ft l p.1).length+1=l.length∧List.Sublist (ft l p.1) l:=by
 obtain⟨x,hx⟩:=Pv h;unfold ft iB;rw[hx];have:=(kR hx).1;refine⟨?_,uF l x⟩;rw[ou this];omega
def F5 {l t p}(h:p∈vT l t):p∈l:=(List.mem_filter.1 (List.mem_filter.1 h).1).1
inductive gZ (k:Nat) (t:Int):BT→List zH→List zH→BT→List zH→Prop
 |stop {B:BT} {l:List zH} (h:eu k B (vT l t)=none):gZ k t B l [] B l
 |step {B C D:BT} {l m done:List zH} {p:zH} (h:eu k B (vT l t)=some (p,C)) (h':gZ k t C (ft l p.1) done D m):gZ k t B l (p::done) D m
def yI4 {k}(hk:100<k){B}(h:qP B){l:List zH}(hl:l.length≤80):BF k B.1 B.2.1 B.2.2.1 B.2.2.2 l=some (xH B l):=Xi hk h hl
def ySu {k}(hk:100<k){B}(h:qP B)(m:List zH)(hm:m.length≤1000):∀c i n,i+c=m.length→c<n→
  KU k n m.length i B.1 B.2.1 B.2.2.1 B.2.2.2 0 0 0 0 0 0 0 m = some (match eu k B (m.drop i) with
   |some (p,C)=>.inr (true,p.1,p.2.1,p.2.2.1,p.2.2.2.1,p.2.2.2.2.1,p.2.2.2.2.2.1,p.2.2.2.2.2.2,C.1,C.2.1,C.2.2.1,C.2.2.2)
   |none=>.inl (B.1,B.2.1,B.2.2.1,B.2.2.2,0,0,0,0,0,0,0))
 |0,i,n,e,hn=>by
  obtain⟨n,rfl⟩:∃x,n=x+1:=⟨n-1,by omega⟩;have:i=m.length:=by omega
  subst this;show F6 k _ m.length m.length B.1 B.2.1 B.2.2.1 B.2.2.2 0 0 0 0 0 0 0 m=_;unfold F6;simp;rfl
 |c+1,i,n,e,hn=>by
  obtain⟨n,rfl⟩:∃x,n=x+1:=⟨n-1,by omega⟩;have hi:i<m.length:=by omega
  have ih:=ySu hk h m hm c (i+1) n (by omega) (by omega);show F6 k _ m.length i B.1 B.2.1 B.2.2.1 B.2.2.2 0 0 0 0 0 0 0 m=_;unfold F6;obtain⟨r,h1,h2,h3⟩:=F4 hk h (l:=[m.getD i pd]) (by simp);have hf:=yI4 hk h (l:=[m.getD i pd]) (by simp);simp[qC,qD hi (by grind)];rw[yFq k B hi];unfold iC;grind
def yFe (B:BT)(x:Option (zH×BT)):Int×Int×Int×Int×Int×Int×Int×(List (Int×Int×Int))×EQ×AC×EQ×Bool:=match x with
 |some (p,C)=>(p.1,p.2.1,p.2.2.1,p.2.2.2.1,p.2.2.2.2.1,p.2.2.2.2.2.1,p.2.2.2.2.2.2,C.1,C.2.1,C.2.2.1,C.2.2.2,true)
 |none=>(0,0,0,0,0,0,0,B.1,B.2.1,B.2.2.1,B.2.2.2,false)
def vK4 {k}(hk:100<k){B}(h:qP B){l}(bP:l.length<k)(hl:qT l)(hd:qM l) t:PN k B.1 B.2.1 B.2.2.1 B.2.2.2 l t=some (yFe B (eu k B (vT l t))):=by
 unfold PN;rw[vB3 bP hl hd];have F7:=PM l t;unfold qT at hl;have:=ySu hk h (vT l t) (by omega) (vT l t).length 0 k (by omega) (by omega);have e:((0:Nat):Int)=0:=rfl;rw[e,List.drop_zero] at this;simp;rw[this];cases eu k B (vT l t) with
 |none=>rfl
 |some x=>rfl
def vAj {k}(hk:100<k) t:∀n B (l r:List zH),qP B→qM l→l.length≤100→l.length<n→r.length+l.length≤1000→
  ∃(C:BT) (m done:List zH),KV k n t l B.1 B.2.1 B.2.2.1 B.2.2.2 r=some (m,C.1,C.2.1,C.2.2.1,C.2.2.2,r++done)∧gZ k t B l done C m∧qP C∧C.1.length=B.1.length∧List.Sublist m l
 |n+1,B,l,r,hb,hd,hl,hn,hr=>by
  have h1:=vK4 hk hb (l:=l) (by omega) (by show l.length≤1000;omega) hd t;cases hx:eu k B (vT l t) with
  |none=>
   rw[hx] at h1;refine⟨B,l,[],?_,.stop hx,hb,rfl,by simp⟩;show F8 k _ t l B.1 B.2.1 B.2.2.1 B.2.2.2 r=_;unfold F8;rw[h1];simp only[ae,yFe,bF,ag,List.append_nil]
  |some x=>
   obtain⟨p,C⟩:=x;rw[hx] at h1;obtain⟨hp,hg⟩:=BP hx;have DO:=F5 hp;obtain⟨tN,mZ⟩:=uJ DO;obtain⟨n9,cN⟩:=sX hk hb (by simp) hg;obtain⟨D,m,done,g1,g3,g4,g5,g6⟩:=vAj hk t n C (ft l p.1) (r++[p]) n9 (List.Pairwise.sublist mZ hd) (by omega) (by omega) (by grind);refine⟨D,m,p::done,?_,.step hx g3,g4,by grind,g6.trans mZ⟩;show F8 k _ t l B.1 B.2.1 B.2.2.1 B.2.2.2 r=_;unfold F8;rw[h1];simp[BK (show l.length<k by omega) (show qT l by show l.length≤1000;omega),oq (show r.length≤1000 by omega)];rw[List.append_cons r p done,←g1];rfl
def vT3 {k}(hk:200≤k){B}(hb:qP B){l}(hd:qM l)(hl:l.length≤100) t:
  ∃(C:BT) (m done:List zH),PO k B.1 B.2.1 B.2.2.1 B.2.2.2 l t=some (C.1,C.2.1,C.2.2.1,C.2.2.2,m,done)∧gZ k t B l done C m∧qP C∧C.1.length=B.1.length∧List.Sublist m l:=by
 obtain⟨C,m,done,h1,h3⟩:=vAj (show 100<k by omega) t k B l [] hb hd hl (by omega) (by grind);refine⟨C,m,done,?_,h3⟩;unfold PO;simp_all
def qz (p q:zH):Bool:=decide (q.2.1=p.2.2.1)&&(decide (q.2.2.1=p.2.1)&& !decide (p.2.1≥q.2.1))
def py (k:Nat)(B:BT)(p:zH):List zH→Option (zH×BT)
 |[]=>none
 |q::l=>match(bif qz p q then iC k B [p,q] else none) with
  |some C=>some (q,C)
  |none=>py k B p l
def sY (k:Nat)(B:BT)(m:List zH):List zH→Option (zH×zH×BT)
 |[]=>none
 |p::l=>match py k B p m with
  |some (q,C)=>some (p,q,C)
  |none=>sY k B m l
def XR {k B C p q}:∀{l},py k B p l=some (q,C)→q∈l∧qz p q=true∧iC k B [p,q]=some C
 |r::l,h=>by
  unfold py at h;cases hd:qz p r with
  |false=>
   rw[hd] at h;have:=XR (l:=l) h;simp_all
  |true=>
   rw[hd] at h;cases hg:iC k B [p,r] with
   |some D=>
    simp_all
   |none=>
    rw[hg] at h;have:=XR (l:=l) h;simp_all
def PQ {k B C p q m}:∀{l},sY k B m l=some (p,q,C)→p∈l∧q∈m∧qz p q=true∧iC k B [p,q]=some C
 |r::l,h=>by
  unfold sY at h;cases hq:py k B r m with
  |some x=>
   rw[hq] at h;cases h;exact⟨by simp,XR hq⟩
  |none=>
   rw[hq] at h;have:=PQ (l:=l) h;simp_all
def vEf {α:Type}{l:List α}{i} h d:l.getD i d=l[i]:=by
 simp_all
def yX3 k B p {m:List zH}{i}(hi:i<m.length):py k B p (m.drop i)=match(bif qz p (m.getD i pd) then iC k B [p,m.getD i pd] else none) with
  |some C=>some (m.getD i pd,C)
  |none=>py k B p (m.drop (i+1)):=by
 rw[List.drop_eq_getElem_cons hi,vEf hi];rfl
def vFi k B r {m:List zH}{i}(hi:i<m.length):sY k B r (m.drop i)=match py k B (m.getD i pd) r with
  |some (q,C)=>some (m.getD i pd,q,C)
  |none=>sY k B r (m.drop (i+1)):=by
 rw[List.drop_eq_getElem_cons hi,vEf hi];rfl
def fV (k:Nat)(B:BT)(l:List zH)(t:Int):Option (zH×zH×BT):=sY k B (vT l t) (vT l t)
def vMt {l x q}(hx:x<l.length)(h:q∈l)(bo:q≠l.getD x pd):q∈yF l x:=by
 unfold yF;have e:=Pu l x pd hx;grind
def qM.eq_of {l}(h:qM l){p q}(hp:p∈l)(hq:q∈l)(e:p.1=q.1):p=q:=by
 obtain⟨i,hi,ei⟩:=List.getElem_of_mem hp;obtain⟨j,hj,ej⟩:=List.getElem_of_mem hq;have hl:=List.pairwise_iff_getElem.1 h;grind
def XS {l p q}(hp:p∈l)(hq:q∈l)(bo:q.1≠p.1):q∈ft l p.1:=by
 obtain⟨x,hx⟩:=Pv hp;unfold ft iB;rw[hx];have:=kR hx;exact vMt this.1 hq (by grind)
def BQ (l:List zH)(p q:zH):List zH:=ft (ft l p.1) q.1
def F9 {k B C l t p q}(h:fV k B l t=some (p,q,C)):p∈l∧q∈l∧qz p q=true∧iC k B [p,q]=some C:=by
 obtain⟨h1,h2,h3⟩:=PQ h;exact⟨F5 h1,F5 h2,h3⟩
def yRp {l}(hd:qM l){p q}(hp:p∈l)(hq:q∈l)(h:qz p q=true):q.1≠p.1:=by
 intro e;have:=hd.eq_of hq hp e;subst this;unfold qz at h;simp at h
def Ga {l}(hd:qM l){p q}(hp:p∈l)(hq:q∈l)(h:qz p q=true):(BQ l p q).length+2=l.length∧List.Sublist (BQ l p q) l:=by
 obtain⟨h1,h2⟩:=uJ hp;obtain⟨h3,h4⟩:=uJ (XS hp hq (yRp hd hp hq h));unfold BQ;exact⟨by omega,h4.trans h2⟩
inductive jZ (k:Nat) (t:Int):BT→List zH→List zH→BT→List zH→Prop
 |stop {B:BT} {l:List zH} (h:fV k B l t=none):jZ k t B l [] B l
 |step {B C D:BT} {l m done:List zH} {p q:zH} (h:fV k B l t=some (p,q,C)) (h':jZ k t C (BQ l p q) done D m):jZ k t B l (p::q::done) D m
def jZ.length {k t B C l done m}(h:jZ k t B l done C m)(hd:qM l):done.length+m.length=l.length∧done.length%2=0:=by
 induction h with
 |stop _=>simp
 |step h _ ih=>
  obtain⟨hp,hq,pz,_⟩:=F9 h;obtain⟨h1,h2⟩:=Ga hd hp hq pz;have:=ih (List.Pairwise.sublist h2 hd);grind
def jZ.sub {k t B C l done m}(h:jZ k t B l done C m)(hd:qM l):List.Sublist m l:=by
 induction h with
 |stop _=>simp
 |step h _ ih=>
  obtain⟨hp,hq,pz,_⟩:=F9 h;obtain⟨h1,h2⟩:=Ga hd hp hq pz;exact(ih (List.Pairwise.sublist h2 hd)).trans h2
def yHt {k}(hk:100<k){B}(h:qP B)(m:List zH)(hm:m.length≤1000) p dJ cL:∀c i n,i+c=m.length→c<n→
  KW k n dJ cL m.length i B.1 B.2.1 B.2.2.1 B.2.2.2 0 0 0 0 0 0 0 0 0 0 0 0 0 0 m p.1 p.2.1 p.2.2.1 p.2.2.2.1 p.2.2.2.2.1 p.2.2.2.2.2.1 p.2.2.2.2.2.2 = some (match py k B p (m.drop i) with
   |some (q,C)=>.inr (true,p.1,p.2.1,p.2.2.1,p.2.2.2.1,p.2.2.2.2.1,p.2.2.2.2.2.1,p.2.2.2.2.2.2,q.1,q.2.1,q.2.2.1,q.2.2.2.1,q.2.2.2.2.1,q.2.2.2.2.2.1,q.2.2.2.2.2.2,C.1,C.2.1,C.2.2.1,C.2.2.2)
   |none=>.inl (dJ,cL,B.1,B.2.1,B.2.2.1,B.2.2.2,0,0,0,0,0,0,0,0,0,0,0,0,0,0,m))
 |0,i,n,e,hn=>by
  obtain⟨n,rfl⟩:∃x,n=x+1:=⟨n-1,by omega⟩;have:i=m.length:=by omega
  subst this;show Gc k _ dJ cL m.length m.length B.1 B.2.1 B.2.2.1 B.2.2.2 0 0 0 0 0 0 0 0 0 0 0 0 0 0 m p.1 p.2.1 p.2.2.1 p.2.2.2.1 p.2.2.2.2.1 p.2.2.2.2.2.1 p.2.2.2.2.2.2=_;unfold Gc;simp;rfl
 |c+1,i,n,e,hn=>by
  obtain⟨n,rfl⟩:∃x,n=x+1:=⟨n-1,by omega⟩;have hi:i<m.length:=by omega
  have ih:=yHt hk h m hm p dJ cL c (i+1) n (by omega) (by omega);show Gc k _ dJ cL m.length i B.1 B.2.1 B.2.2.1 B.2.2.2 0 0 0 0 0 0 0 0 0 0 0 0 0 0 m p.1 p.2.1 p.2.2.1 p.2.2.2.1 p.2.2.2.2.1 p.2.2.2.2.2.1 p.2.2.2.2.2.2=_;unfold Gc;obtain⟨r,h1,h2,h3⟩:=F4 hk h (l:=[p,m.getD i pd]) (by simp);have hf:=yI4 hk h (l:=[p,m.getD i pd]) (by simp);have gz:qt k B.1 B.2.1 B.2.2.1 B.2.2.2 [(p.1,p.2.1,p.2.2.1,p.2.2.2.1,p.2.2.2.2.1,p.2.2.2.2.2.1,p.2.2.2.2.2.2),m.getD i (0,(0,(0,(0,(0,(0,0))))))]=some r:=h1;have ez:BF k B.1 B.2.1 B.2.2.1 B.2.2.2 [(p.1,p.2.1,p.2.2.1,p.2.2.2.1,p.2.2.2.2.1,p.2.2.2.2.2.1,p.2.2.2.2.2.2),m.getD i (0,(0,(0,(0,(0,(0,0))))))]=some (xH B [p,m.getD i pd]):=hf;simp only[qC,qD hi (by grind),qU,ao,aa hi];rw[yX3 k B p hi];unfold qz;cases decide ((m.getD i pd).2.1=p.2.2.1) with
  |false=>exact ih
  |true=>
   cases decide ((m.getD i pd).2.2.1=p.2.1) with
   |false=>exact ih
   |true=>
    cases decide (p.2.1≥(m.getD i pd).2.1) with
    |true=>exact ih
    |false=>
     unfold iC;grind
def yWl {k}(hk:100<k){B}(h:qP B)(m:List zH)(hm:m.length≤1000)(KX:m.length<k):∀c i n,i+c=m.length→c<n→
  KY k n m.length i B.1 B.2.1 B.2.2.1 B.2.2.2 0 0 0 0 0 0 0 0 0 0 0 0 0 0 m = some (match sY k B m (m.drop i) with
   |some (p,q,C)=>.inr (true,p.1,p.2.1,p.2.2.1,p.2.2.2.1,p.2.2.2.2.1,p.2.2.2.2.2.1,p.2.2.2.2.2.2,q.1,q.2.1,q.2.2.1,q.2.2.2.1,q.2.2.2.2.1,q.2.2.2.2.2.1,q.2.2.2.2.2.2,C.1,C.2.1,C.2.2.1,C.2.2.2)
   |none=>.inl (0,0,0,0,0,0,0,0,0,0,0,0,0,0))
 |0,i,n,e,hn=>by
  obtain⟨n,rfl⟩:∃x,n=x+1:=⟨n-1,by omega⟩;have:i=m.length:=by omega
  subst this;show Gd k _ m.length m.length B.1 B.2.1 B.2.2.1 B.2.2.2 0 0 0 0 0 0 0 0 0 0 0 0 0 0 m=_;unfold Gd;simp;rfl
 |c+1,i,n,e,hn=>by
  obtain⟨n,rfl⟩:∃x,n=x+1:=⟨n-1,by omega⟩;have hi:i<m.length:=by omega
  have ih:=yWl hk h m hm KX c (i+1) n (by omega) (by omega);show Gd k _ m.length i B.1 B.2.1 B.2.2.1 B.2.2.2 0 0 0 0 0 0 0 0 0 0 0 0 0 0 m=_;unfold Gd;have fH:=yHt hk h m hm (m.getD i pd) m.length i m.length 0 k (by omega) KX;have e0:((0:Nat):Int)=0:=rfl;rw[e0,List.drop_zero] at fH;simp only[qC,qU,ao,aa hi];rw[fH];rw[vFi k B m hi];cases py k B (m.getD i (0,(0,(0,(0,(0,(0,0))))))) m with
  |none=>
   simp[qD hi (by grind)];exact ih
  |some x=>rfl
def XT (x:Option (zH×zH×BT)):Int×Int×Int×Int×Int×Int×Int×Int×Int×Int×Int×Int×Int×Int×(List (Int×Int×Int))×EQ×AC×EQ×Bool:=match x with
 |some (p,q,C)=>(p.1,p.2.1,p.2.2.1,p.2.2.2.1,p.2.2.2.2.1,p.2.2.2.2.2.1,p.2.2.2.2.2.2,q.1,q.2.1,q.2.2.1,q.2.2.2.1,q.2.2.2.2.1,q.2.2.2.2.2.1,q.2.2.2.2.2.2,C.1,C.2.1,C.2.2.1,C.2.2.2,true)
 |none=>(0,0,0,0,0,0,0,0,0,0,0,0,0,0,[],[],[],[],false)
def vZu {k}(hk:100<k){B}(h:qP B){l}(bP:l.length<k)(hl:qT l)(hd:qM l) t:PR k B.1 B.2.1 B.2.2.1 B.2.2.2 l t=some (XT (fV k B l t)):=by
 unfold PR fV;rw[vB3 bP hl hd];have F7:=PM l t;unfold qT at hl;have:=yWl hk h (vT l t) (by omega) (by omega) (vT l t).length 0 k (by omega) (by omega);have e:((0:Nat):Int)=0:=rfl;rw[e,List.drop_zero] at this;simp;rw[this];cases sY k B (vT l t) (vT l t) with
 |none=>rfl
 |some x=>rfl
def vY8 {k}(hk:3≤k) t (l:List zH)(hl:l.length≤1000)(uk:l.length<k)(C:BT)(r:List zH)(hr:r.length≤900)(p q:zH):
  xI k k t l 2 0 C.1 C.2.1 C.2.2.1 C.2.2.2 r [p,q]=some (t,BQ l p q,C.1,C.2.1,C.2.2.1,C.2.2.2,r++[p,q]):=by
 obtain⟨n,rfl⟩:∃n,k=n+3:=⟨k-3,by omega⟩;have h1:=BK uk (show qT l from hl) p.1;have tN:(ft l p.1).length≤l.length:=by
  unfold ft iB;cases hp:wB l p.1 with
  |none=>simp
  |some x=>exact List.Sublist.length_le (uF l x)
 have h2:=BK (k:=n+3) (l:=ft l p.1) (by omega) (show(ft l p.1).length≤1000 by omega) q.1;have e1:zL (r.length+1) 56=true:=oq (by omega);have e2:zL ((r++[p]).length+1) 56=true:=oq (by grind);show xJ (n+3) (xI (n+3) (n+2)) t l 2 0 C.1 C.2.1 C.2.2.1 C.2.2.2 r [p,q]=_;unfold xJ;have g0:[p,q].getD (Int.toNat 0) (0,(0,(0,(0,(0,(0,0))))))=p:=rfl;have b0:zB 0 [p,q].length=true:=rfl;have d0:decide ((0:Int)<2)=true:=rfl;have w0:zA (0+1)=1:=by decide
 rw[d0,b0,g0,h1];simp[e1];show xJ (n+3) (xI (n+3) (n+1)) t (ft l p.1) 2 1 C.1 C.2.1 C.2.2.1 C.2.2.2 (r++[p]) [p,q]=_;unfold xJ;have g1:[p,q].getD (Int.toNat 1) (0,(0,(0,(0,(0,(0,0))))))=q:=rfl;have b1:zB 1 [p,q].length=true:=rfl;have d1:decide ((1:Int)<2)=true:=rfl;have w1:zA (1+1)=2:=by decide
 rw[d1,b1,g1,h2];simp only[e2];show xJ (n+3) (xI (n+3) n) t (BQ l p q) 2 2 C.1 C.2.1 C.2.2.1 C.2.2.2 (r++[p]++[q]) [p,q]=_;unfold xJ;simp
def yLy {k}(hk:100<k) t:∀n B (l r:List zH),qP B→qM l→l.length≤100→l.length<n→r.length+l.length≤900→
  ∃(C:BT) (m done:List zH),KZ k n t l B.1 B.2.1 B.2.2.1 B.2.2.2 r=some (m,C.1,C.2.1,C.2.2.1,C.2.2.2,r++done)∧jZ k t B l done C m∧qP C∧C.1.length=B.1.length∧List.Sublist m l
 |n+1,B,l,r,hb,hd,hl,hn,hr=>by
  have h1:=vZu hk hb (l:=l) (by omega) (by show l.length≤1000;omega) hd t;cases hx:fV k B l t with
  |none=>
   rw[hx] at h1;refine⟨B,l,[],?_,.stop hx,hb,rfl,by simp⟩;show Ge k _ t l B.1 B.2.1 B.2.2.1 B.2.2.2 r=_;unfold Ge;rw[h1];simp only[ae,XT,bF,ag,List.append_nil]
  |some x=>
   obtain⟨p,q,C⟩:=x;obtain⟨hp,hq,pz,hg⟩:=F9 hx;obtain⟨tN,mZ⟩:=Ga hd hp hq pz;obtain⟨n9,cN⟩:=sX hk hb (by simp) hg;obtain⟨D,m,done,g1,g3,g4,g5,g6⟩:=yLy hk t n C (BQ l p q) (r++[p,q]) n9 (List.Pairwise.sublist mZ hd) (by omega) (by omega) (by grind);refine⟨D,m,p::q::done,?_,.step hx g3,g4,by grind,g6.trans mZ⟩;show Ge k _ t l B.1 B.2.1 B.2.2.1 B.2.2.2 r=_;unfold Ge;rw[h1];have hL:=vY8 (k:=k) (by omega) t l (by omega) (by omega) C r (by omega) p q;simp only[XT,ak];simp_all
def vNa {k}(hk:200≤k){B}(hb:qP B){l}(hd:qM l)(hl:l.length≤100) t:
  ∃(C:BT) (m done:List zH),PT k B.1 B.2.1 B.2.2.1 B.2.2.2 l t=some (C.1,C.2.1,C.2.2.1,C.2.2.2,m,done)∧jZ k t B l done C m∧qP C∧C.1.length=B.1.length∧List.Sublist m l:=by
 obtain⟨C,m,done,h1,h3⟩:=yLy (show 100<k by omega) t k B l [] hb hd hl (by omega) (by grind);refine⟨C,m,done,?_,h3⟩;unfold PT;simp_all
def jY (l:List zH)(f:Int):Nat:=(l.filter (jC f)).length
def sZ (l:List zH)(many:AC)(i:Nat):Bool:=
 (decide ((l.getD i pd).2.1≥0)&&decide ((l.getD i pd).2.1<(many.length:Int)))&&decide (((jY (l.take i) (l.getD i pd).2.1:Nat):Int)<many.getD (l.getD i pd).2.1.toNat 0)
def nr (l:List zH)(many:AC):Nat→List zH
 |0=>[]
 |i+1=>nr l many i++(bif sZ l many i then[l.getD i pd] else[])
def vP (l:List zH)(many:AC):List zH:=nr l many l.length
def yPh l many:∀N,N≤l.length→List.Sublist (nr l many N) (l.take N)
 |0,_=>by simp[nr]
 |N+1,h=>by
  rw[←fc l N pd h];apply List.Sublist.append (yPh l many N (by omega));grind
def xK l many:List.Sublist (vP l many) l:=by
 have:=yPh l many l.length (by simp)
 rwa [List.take_length] at this
def uK (v w:AC):Prop:=v.length=w.length∧∀i,i<w.length→v.getD i 0≤w.getD i 0
def fi (B:BT)(l:List zH):AC:=uD B.1 B.2.1 B.2.2.1 B.2.2.2 l
def fu (s:AC)(m:AC):AC:=s.foldl (fun m i=>m.set i.toNat (m.getD i.toNat 0-1)) m
def uL:∀s m,(fu s m).length=m.length
 |[],_=>rfl
 |i::s,m=>by
  show(fu s (m.set i.toNat (m.getD i.toNat 0-1))).length=_;rw[uL s,List.length_set]
def yHy:∀(s:List Nat) m,s.Nodup→(∀i∈s,i<m.length)→∀j,(fu (s.map fun(x:Nat)=>(x:Int)) m).getD j 0=m.getD j 0-(if j∈s then 1 else 0)
 |[],m,_,_,j=>by simp[fu]
 |i::s,m,hs,hi,j=>by
  show(fu (s.map fun(x:Nat)=>(x:Int)) (m.set ((i:Int)).toNat (m.getD ((i:Int)).toNat 0-1))).getD j 0=_;rw[ao,yHy s _ (by grind) (by grind),fM];grind
def uM (B:BT)(l:List zH)(i:Nat):Bool:=gY B.1 B.2.1 B.2.2.1 B.2.2.2 l i
def yUu B l {m}(hm:m.length=B.1.length) j:(fu (fi B l) m).getD j 0=m.getD j 0-(if j<B.1.length∧uM B l j=true then 1 else 0):=by
 have:=yHy ((List.range B.1.length).filter fun i=>uM B l i) m (List.Nodup.sublist List.filter_sublist (by grind)) (by grind) j;unfold fi uD;rw[show(fun i=>gY B.1 B.2.1 B.2.2.1 B.2.2.2 l i)=fun i=>uM B l i from rfl,this];simp
def vT4 {B l}:fi B l=[]↔∀j,j<B.1.length→uM B l j=false:=by
 unfold fi uD;rw[List.map_eq_nil_iff,List.filter_eq_nil_iff];constructor
 ·intro h j hj;have:=h j (by grind)
  simpa[uM] using this
 ·intro h i hi;have:=h i (by grind)
  simpa[uM] using this
def vAu {l many p}:∀{N},p∈nr l many N→∃i,i<N∧l.getD i pd=p∧sZ l many i=true
 |N+1,h=>by
  unfold nr at h;rw[List.mem_append] at h;rcases h with h|h
  ·obtain⟨i,h1,h2⟩:=vAu h;grind
  grind
def vU9 {B l}(hl:∀q∈l,yJ B.1.length q){m j}(h:uM B (vP l m) j=true):1≤m.getD j 0:=by
 unfold uM gY at h;rw[bb,Bool.not_eq_true'] at h;have hn:=yOo (n:=B.1.length) (l:=vP l m) (fun q hq=>hl q ((xK l m).subset hq)) j;rw[h.1] at hn;obtain⟨x,hx,he⟩:=Pn.1 hn;obtain⟨i,h1,h2,h3⟩:=vAu (fa (d:=pd) hx);unfold sZ at h3;have Pe:(l.getD i pd)=(vP l m).getD x pd:=h2;grind
inductive kT (B:BT) (l:List zH):AC→AC→Nat→Prop
 |stop {m:AC} (h:fi B (vP l m)=[]):kT B l m m 0
 |step {m f:AC} {n:Nat} (h:fi B (vP l m)≠[]) (h':kT B l (fu (fi B (vP l m)) m) f n):kT B l m f (n+1)
def XU {B l m}(hm:m.length=B.1.length):uK (fu (fi B l) m) m:=by
 refine⟨uL _ _,fun i hi=>?_⟩;rw[yUu B l hm];omega
def uK.trans {u v w}(h:uK u v)(h':uK v w):uK u w:=⟨h.1.trans h'.1,fun i hi=>Int.le_trans (h.2 i (by have:=h'.1;omega)) (h'.2 i hi)⟩
def uK.refl v:uK v v:=⟨rfl,by simp⟩
def kT.le {B l m f n}(h:kT B l m f n)(hm:m.length=B.1.length):uK f m:=by
 induction h with
 |stop _=>exact uK.refl _
 |step _ _ ih=>exact(ih ((uL _ _).trans hm)).trans (XU hm)
def kT.final {B l m f n}(h:kT B l m f n):fi B (vP l f)=[]:=by
 induction h with
 |stop h=>exact h
 |step _ _ ih=>exact ih
def pA (m:AC):Prop:=∀i,0≤m.getD i 0
def PU {B l}(hl:∀q∈l,yJ B.1.length q){m}(hm:m.length=B.1.length)(h0:pA m):pA (fu (fi B (vP l m)) m):=by
 intro i;rw[yUu B _ hm];have:=h0 i;split
 ·rename_i c;have:=vU9 hl c.2;omega
 ·omega
def kT.nonneg {B l}(hl:∀q∈l,yJ B.1.length q){m f n}(h:kT B l m f n)(hm:m.length=B.1.length)(h0:pA m):pA f:=by
 induction h with
 |stop _=>exact h0
 |step _ _ ih=>exact ih ((uL _ _).trans hm) (PU hl hm h0)
def nu (m:AC):Int:=zP (fun x=>x) m
def yLl:∀m i x,i<m.length→nu (m.set i x)=nu m-m.getD i 0+x
 |y::m,0,x,_=>by
  show x+nu m=y+nu m-y+x;omega
 |y::m,i+1,x,h=>by
  show y+nu (m.set i x)=y+nu m-m.getD i 0+x;rw[yLl m i x (by simp_all)];omega
def yQn:∀s m,(∀i∈s,0≤i∧i<(m.length:Int))→nu (fu s m)=nu m-s.length
 |[],m,_=>by simp[fu]
 |i::s,m,h=>by
  have hi:=h i (by simp);show nu (fu s (m.set i.toNat (m.getD i.toNat 0-1)))=_;rw[yQn s _ (by grind),yLl _ _ _ (by omega)];grind
def XV {B l}:∀i∈fi B l,0≤i∧i<(B.1.length:Int):=by
 intro i hi;obtain⟨x,hx,rfl⟩:=List.mem_map.1 hi;simp_all
def yPv:∀{m},pA m→0≤nu m
 |[],_=>Int.le_refl 0
 |x::m,h=>by
  have h1:0≤x:=h 0;have h2:=yPv (m:=m) (fun i=>h (i+1));show 0≤x+nu m;omega
def vCi {B l}(hl:∀q∈l,yJ B.1.length q):∀(N:Nat) m,m.length=B.1.length→pA m→nu m≤N→∃f n,kT B l m f n∧n≤N
 |N,m,hm,h0,hN=>by
  by_cases c:fi B (vP l m)=[]
  ·exact⟨m,0,.stop c,by simp⟩
  ·have ht:=yQn (fi B (vP l m)) m (by rw[hm];exact XV);have hp:0<(fi B (vP l m)).length:=by grind
   have h1:=PU hl hm h0;have h2:=yPv h1;obtain⟨N,rfl⟩:∃x,N=x+1:=⟨N-1,by omega⟩;obtain⟨f,n,h3,h4⟩:=vCi hl N _ ((uL _ _).trans hm) h1 (by omega);exact⟨f,n+1,.step c h3,by omega⟩
def XW l many:∀N,(nr l many N).length≤N
 |0=>Nat.le_refl _
 |N+1=>by
  unfold nr;have:=XW l many N;grind
def XX (l:List zH) i (hi:i<l.length) f:jY (l.take (i+1)) f=jY (l.take i) f+(if(l.getD i pd).2.1=f then 1 else 0):=by
 unfold jY;rw[BG _ _ _ pd hi,List.length_append];unfold jC;grind
def g9 (l:List zH)(n:Nat):AC:=(List.range n).map fun(i:Nat)=>((jY l i:Nat):Int)
def yH3 l i:g9 l (i+1)=g9 l i++[((jY l i:Nat):Int)]:=by
 unfold g9;rw[List.range_succ,List.map_append];rfl
def xL l n:(g9 l n).length=n:=by
 unfold g9;simp
def K0:∀s m i,m.getD i 0-s.length≤(fu s m).getD i 0∧(fu s m).getD i 0≤m.getD i 0
 |[],m,i=>by simp[fu]
 |x::s,m,i=>by
  have h:=K0 s (m.set x.toNat (m.getD x.toNat 0-1)) i;rw[fM] at h;have e:fu (x::s) m=fu s (m.set x.toNat (m.getD x.toNat 0-1)):=rfl;rw[e,List.length_cons];by_cases c:x.toNat=i∧x.toNat<m.length
  ·grind
  omega
def yEg (s m:AC) i (hi:i<s.length):fu (s.take (i+1)) m=(fu (s.take i) m).set (s.getD i 0).toNat ((fu (s.take i) m).getD (s.getD i 0).toNat 0-1):=by
 unfold fu;rw[←fc s i 0 hi,List.foldl_append];rfl
def yHx g:∀n,zP (fun x=>x) ((List.range n).map g)=qJ g n
 |0=>rfl
 |n+1=>by
  rw[List.range_succ,List.map_append,mm,yHx g n];show qJ g n+(g n+0)=qJ g n+g n;omega
def XY l f:((jY l f:Nat):Int)=zP (fun p:zH=>if p.2.1=f then 1 else 0) l:=by
 induction l with
 |nil=>rfl
 |cons p l ih=>
  unfold jY jC at*
  show _=(if p.2.1=f then(1:Int) else 0)+zP _ l;grind
def vPd l n:nu (g9 l n)≤l.length:=by
 unfold nu g9;rw[yHx (fun i:Nat=>((jY l i:Nat):Int)) n,sM (h:=fun j=>zP (fun p:zH=>if p.2.1=(j:Int) then 1 else 0) l) (fun j _=>XY l j),Ow];have := (Em (A := 1) (l := l) (g := fun p : zH => qJ (fun j => if p.2.1 = (j : Int) then 1 else 0) n) (fun p _=>by
  by_cases c:0≤p.2.1
  ·obtain⟨f,hf⟩:∃f:Nat,p.2.1=f:=⟨p.2.1.toNat,by omega⟩;have e:qJ (fun j=>if p.2.1=(j:Int) then(1:Int) else 0) n=qJ (fun j=>if j=f then 1 else 0) n:=by grind
   rw[e,Bn];omega
  ·have e:qJ (fun j=>if p.2.1=(j:Int) then(1:Int) else 0) n=qJ (fun _=>0) n:=by grind
   rw[e,Wq];omega)).2
 omega
def vAe l n i:(g9 l n).getD i 0=if i<n then((jY l i:Nat):Int) else 0:=by
 unfold g9;grind
def vNv l f:jY l f≤l.length:=List.length_filter_le _ _
def PV {l}(hl:l.length≤1000) n:pA (g9 l n)∧∀i,(g9 l n).getD i 0≤1000:=by
 refine⟨fun i=>?_,fun i=>?_⟩
 ·rw[vAe];omega
 ·rw[vAe];have:=vNv l i;omega
def K1 {B:BT}{l}(hl:∀q∈l,yJ B.1.length q)(bS:l.length≤64) m:wJ B.1.length (vP l m):=
 ⟨fun p hp=>hl p ((xK l m).subset hp),by have:=(xK l m).length_le;omega⟩
def yZ (l:List zH)(t:Int):List zH:=l.filter (ke t)
def K2 {n l t}(h:∀q∈l,yJ n q):∀q∈yZ l t,yJ n q:=fun q hq=>h q (List.mem_filter.1 hq).1
def xM l t:(yZ l t).length≤l.length:=List.length_filter_le _ _
def XZ {B}(hb:qP B){l}(hl:∀q∈l,yJ B.1.length q)(bS:l.length≤64) t:
  ∃f n,kT B (yZ l t) (g9 (yZ l t) B.1.length) f n∧n≤(yZ l t).length:=by
 have h1:=PV (l:=yZ l t) (by have:=xM l t;omega) B.1.length;have h2:=vPd (yZ l t) B.1.length;exact vCi (K2 hl) (yZ l t).length _ (xL _ _) h1.1 (by omega)
def pB (l:List zH)(hs:List zH):List zH:=hs.foldl (fun l p=>ft l p.1) l
def X0 l id:(ft l id).length≤l.length∧List.Sublist (ft l id) l:=by
 unfold ft iB;cases wB l id with
 |none=>simp
 |some x=>exact⟨(uF l x).length_le,uF l x⟩
def PW:∀hs l,(pB l hs).length≤l.length∧List.Sublist (pB l hs) l
 |[],l=>⟨Nat.le_refl _,List.Sublist.refl _⟩
 |p::hs,l=>by
  obtain⟨h1,h2⟩:=PW hs (ft l p.1);obtain⟨h3,h4⟩:=X0 l p.1;exact⟨Nat.le_trans h1 h3,h2.trans h4⟩
def yRc (l hs:List zH) i (hi:i<hs.length):pB l (hs.take (i+1))=ft (pB l (hs.take i)) (hs.getD i pd).1:=by
 unfold pB;rw[←fc hs i pd hi,List.foldl_append];rfl
def Gf (B:BT)(l hs:List zH)(r:List yA×EQ×AC×EQ×Int):(List (Int×Int×Int))×EQ×AC×EQ×(List zH)×(List zH):=
 bif !(decide (r.2.2.2.2=0)) then(B.1,B.2.1,B.2.2.1,B.2.2.2,l,[]) else(r.1,r.2.1,r.2.2.1,r.2.2.2.1,pB l hs,hs)
def X1 {k:Nat}{l:List zH}(hk:l.length<k)(hl:qT l){many:AC}(h0:pA many)(hm:∀i,many.getD i 0≤1000)(F7:many.length≤1000):Gg k l many=some (vP l many):=by
 unfold qT at hl;unfold Gg X2 X3;rw[qI (by omega) (by omega)];simp only[ag,ae];obtain ⟨s', h1, h2, h3, h4⟩ := yW (L := fun n i (s : AC × List zH) => Gh k n l l.length i s.1 s.2) (N := l.length) (fun s => s) (fun i s => s.1.length = many.length ∧ (∀ f : Nat, f < many.length → s.1.getD f 0 = if many.getD f 0 ≤ (jY (l.take i) f : Nat) then 0 else many.getD f 0 - (jY (l.take i) f : Nat)) ∧ s.2 = nr l many i) (fun n s _=>by
  show Gj k _ l l.length l.length s.1 s.2=_;unfold Gj;simp only [qU, ab (Nat.lt_irrefl _), ak]) (fun n i s hi hs=>by
  obtain⟨s1,s2,s3⟩:=hs;have eX:s.2.length≤i:=by rw[s3];exact XW l many i
  show∃s',Gj k _ l l.length i s.1 s.2=_∧_;unfold Gj X4;simp only[qC,qD hi (show l.length<9223372036854775808 by omega),qU,ao,aa hi,ag,oq (show s.2.length≤1000 by omega)];have nV:=fun f=>XX l i hi f
  have Jg:∀f:Nat,f<many.length→(l.getD i pd).2.1≠(f:Int)→(if many.getD f 0≤(jY (l.take (i+1)) f:Nat) then(0:Int) else many.getD f 0-(jY (l.take (i+1)) f:Nat))=if many.getD f 0≤(jY (l.take i) f:Nat) then 0 else many.getD f 0-(jY (l.take i) f:Nat):=by
   intro f hf bo;rw[nV f,if_neg bo,Nat.add_zero]
  have skip:sZ l many i=false→(∀f:Nat,f<many.length→(l.getD i pd).2.1=(f:Int)→many.getD f 0≤(jY (l.take i) f:Nat))→(s.1.length=many.length∧(∀f:Nat,f<many.length→s.1.getD f 0=if many.getD f 0≤(jY (l.take (i+1)) f:Nat) then 0 else many.getD f 0-(jY (l.take (i+1)) f:Nat))∧s.2=nr l many (i+1)):=by
   intro hh hz;refine⟨s1,fun f hf=>?_,?_⟩
   ·by_cases c:(l.getD i pd).2.1=(f:Int)
    ·have:=hz f hf c;rw[s2 f hf,if_pos this,nV f,if_pos c,if_pos (by omega)]
    ·rw[Jg f hf c,s2 f hf]
   ·show _=nr l many i++_;rw[hh,s3];simp
  cases e1:decide ((l.getD i pd).2.1<0) with
  |true=>
   refine⟨s,rfl,skip ?_ ?_⟩
   ·unfold sZ;rw[aW] at e1;rw[ab (show¬(l.getD i pd).2.1≥0 by omega)];rfl
   ·intro f hf c;rw[aW] at e1;omega
  |false=>
   cases e2:decide ((l.getD i pd).2.1≥((s.1.length:Nat):Int)) with
   |true=>
    refine⟨s,rfl,skip ?_ ?_⟩
    ·unfold sZ;rw[aW] at e2;rw[ab (show¬(l.getD i pd).2.1<(many.length:Int) by omega),Bool.and_false];rfl
    ·intro f hf c;rw[aW] at e2;omega
   |false=>
    rw[decide_eq_false_iff_not] at e1 e2;obtain⟨f,hf⟩:∃f:Nat,(l.getD i pd).2.1=f:=⟨(l.getD i pd).2.1.toNat,by omega⟩;have AO:f<many.length:=by omega
    have ez:(l.getD i (0,(0,(0,(0,(0,(0,0))))))).2.1=f:=hf;simp only[ak,ez,qC,ao,s1,aa AO,ag];have AU:sZ l many i=decide (((jY (l.take i) f:Nat):Int)<many.getD f 0):=by
     unfold sZ;rw[hf,aa (show(f:Int)≥0 by omega),aa (show(f:Int)<(many.length:Int) by omega),ao];rfl
    have mq:=s2 f AO;cases e3:decide (s.1.getD f 0<1) with
    |true=>
     rw[aW,mq] at e3;have hle:many.getD f 0≤(jY (l.take i) f:Nat):=by
      by_cases c:many.getD f 0≤(jY (l.take i) f:Nat)
      ·exact c
      ·rw[if_neg c] at e3;omega
     refine⟨s,rfl,skip (by rw[AU];exact ab (by omega)) ?_⟩;intro g hg c;have:g=f:=by omega
     subst this;exact hle
    |false=>
     rw[decide_eq_false_iff_not] at e3;have hgt:¬many.getD f 0≤(jY (l.take i) f:Nat):=by
      intro c;rw[mq,if_pos c] at e3;omega
     rw[if_neg hgt] at mq;have me:=hm f;have hw:zA (s.1.getD f 0-1)=s.1.getD f 0-1:=zO (by omega) (by omega);refine⟨(s.1.set f (s.1.getD f 0-1),s.2++[l.getD i pd]),?_,?_,?_,?_⟩
     ·simp only[ak,ae,ag,hw]
     ·rw[List.length_set];exact s1
     ·intro g hg;rw[fM];by_cases c:f=g
      ·subst c;rw[if_pos ⟨rfl,by omega⟩,nV f,if_pos hf,mq];by_cases d:many.getD f 0≤((jY (l.take i) f+1:Nat):Int)
       ·rw[if_pos d];omega
       ·rw[if_neg d];omega
      ·rw[if_neg (fun e=>c e.1),Jg g hg (by omega)];exact s2 g hg
     ·show s.2++[l.getD i pd]=nr l many i++_;rw[AU,aa (by omega),s3];rfl) (s:=(many,[])) hk ⟨rfl,fun f hf=>by
   have:(jY (l.take 0) f:Nat)=0:=rfl;have h0f:=h0 f;rw[this];by_cases c:many.getD f 0≤((0:Nat):Int)
   ·rw[if_pos c];show many.getD f 0=0;omega
   ·rw[if_neg c];show many.getD f 0=_;omega,rfl⟩
 have gz:Gh k k l l.length 0 many []=some s':=h1;rw[gz];simp only[ae,h4];rfl
def X5 {k l}(hk:l.length<k)(hl:qT l) f:K3 k l f=some (l.filter (jC f)):=by
 unfold K3 X6;have := Kz pd (L := fun n i s => K4 k n l l.length i f s) (jC f) id (fun n s=>by
  show Gk k _ l l.length l.length f s=_;unfold Gk;simp) (fun n i s hi hs=>by
  show Gk k _ l l.length i f s=_;unfold Gk X7;unfold qT at hl;simp[qC,qD hi (by grind),oq (show s.length≤1000 by omega)];unfold jC;grind) hk
 simp_all
def X8 {k}{B:BT}{l}(hk:l.length<k)(hl:qT l)(hn:B.1.length<k)(hn':B.1.length≤1000) s7:
  BR k k s7 B.1.length 0 B.1 B.2.1 B.2.2.1 B.2.2.2 [] l=some (s7,B.1,B.2.1,B.2.2.1,B.2.2.2,g9 l B.1.length,l):=by
 obtain ⟨s', h1, h2⟩ := yW (L := fun n i (s : AC) => BR k n s7 B.1.length i B.1 B.2.1 B.2.2.1 B.2.2.2 s l) (N := B.1.length) (fun s => (s7, B.1, B.2.1, B.2.2.1, B.2.2.2, s, l)) (fun i s => s = g9 l i) (fun n s _=>by
  show Gl k _ s7 B.1.length B.1.length B.1 B.2.1 B.2.2.1 B.2.2.2 s l=_;unfold Gl;simp) (fun n i s hi hs=>by
  refine⟨_,?_,(yH3 l i).symm⟩;show Gl k _ s7 B.1.length i B.1 B.2.1 B.2.2.1 B.2.2.2 s l=_;unfold Gl;have hr:zL (s.length+1) 8=true:=by rw[hs,xL];exact qI (by omega) (by omega)
  simp[aa hi,X5 hk hl,hr,qD hi (by grind)];rw[hs];rfl) (s:=[]) hn rfl
 simp_all
def X9 {k}{B:BT}{l:List zH}{s m}(hk:s.length<k)(hs:s.length≤1000)(fH:∀x∈s,0≤x∧x<(m.length:Int))(h0:pA m)(hm:∀i,m.getD i 0≤1000) s7:
  Gm k k s7 s.length 0 B.1 B.2.1 B.2.2.1 B.2.2.2 m l s=some (s7,B.1,B.2.1,B.2.2.1,B.2.2.2,fu s m,l):=by
 obtain ⟨s', h1, h2⟩ := yW (L := fun n i (r : AC) => Gm k n s7 s.length i B.1 B.2.1 B.2.2.1 B.2.2.2 r l s) (N := s.length) (fun r => (s7, B.1, B.2.1, B.2.2.1, B.2.2.2, r, l)) (fun i r => r = fu (s.take i) m) (fun n r _=>by
  show Gn k _ s7 s.length s.length B.1 B.2.1 B.2.2.1 B.2.2.2 r l s=_;unfold Gn;simp) (fun n i r hi hr=>by
  refine⟨_,?_,(yEg s m i hi).symm⟩;show Gn k _ s7 s.length i B.1 B.2.1 B.2.2.1 B.2.2.2 r l s=_;unfold Gn;obtain⟨b1,b2⟩:=fH _ (fa (d:=0) hi);have tP:r.length=m.length:=by rw[hr,uL]
  have hb:zB (s.getD i 0) r.length=true:=wX b1 (by omega);have Wm:=K0 (s.take i) m (s.getD i 0).toNat;have I9:=h0 (s.getD i 0).toNat;have me:=hm (s.getD i 0).toNat;have bm:(s.take i).length≤s.length:=by grind
  have hw:zA (r.getD (s.getD i 0).toNat 0-1)=r.getD (s.getD i 0).toNat 0-1:=by
   rw[hr];exact zO (by omega) (by omega)
  simp only[qU,qC,ao,aa hi,ag,hb,hw,qD hi (by grind)];rw[hr]) (s:=m) hk rfl
 simp_all
def Ya {k}(hk:100<k){B}(hb:qP B){l}(hl:∀q∈l,yJ B.1.length q)(bS:l.length≤64){m f n}(h:kT B l m f n):
  ∀N (s7:Int),m.length=B.1.length→pA m→(∀i,m.getD i 0≤1000)→n<N→0≤s7→s7+n<1000000→
  K5 k N s7 B.1 B.2.1 B.2.2.1 B.2.2.2 m l=some (s7+n+1,f):=by
 induction h with
 |@stop m h=>
  intro N s7 hm h0 h1 hn hs tY;obtain⟨N,rfl⟩:∃x,N=x+1:=⟨N-1,by omega⟩;have gG:=hb.n6;show Gp k _ s7 B.1 B.2.1 B.2.2.1 B.2.2.2 m l=_;unfold Gp;have hS:=Xe hk hb (K1 hl bS m);have oU:BE k B.1 B.2.1 B.2.2.1 B.2.2.2 (vP l m)=some (fi B (vP l m)):=hS;rw[X1 (by omega) (show qT l by show l.length≤1000;omega) h0 h1 (by omega)];simp[ae];rw[oU,h];have w:zA (s7+1)=s7+1:=zO (by omega) (by omega);rw[w];simp
 |@step m f n h h' ih=>
  intro N s7 hm h0 h1 hn hs tY;obtain⟨N,rfl⟩:∃x,N=x+1:=⟨N-1,by omega⟩;have gG:=hb.n6;show Gp k _ s7 B.1 B.2.1 B.2.2.1 B.2.2.2 m l=_;unfold Gp;have hS:=Xe hk hb (K1 hl bS m);have oU:BE k B.1 B.2.1 B.2.2.1 B.2.2.2 (vP l m)=some (fi B (vP l m)):=hS;rw[X1 (by omega) (show qT l by show l.length≤1000;omega) h0 h1 (by omega)];simp only[ae];rw[oU];simp only[ae];have w:zA (s7+1)=s7+1:=zO (by omega) (by omega);have bo : decide ((((fi B (vP l m)).length : Nat) : Int) = 0) = false := ab (by
   simp_all)
  have eX:(fi B (vP l m)).length≤B.1.length:=by
   unfold fi uD;grind
  rw[bo,w];rw[X9 (by omega) (by omega) (by rw[hm];exact XV) h0 h1];simp;have Yb:=PU hl hm h0;have:=ih N (s7+1) ((uL _ _).trans hm) Yb (fun i=>by have:=(K0 (fi B (vP l m)) m i).2;have:=h1 i;omega) (by omega) (by omega) (by omega);rw[this]
  congr 2
  omega
def vQu {k}(hk:100<k){B}(hb:qP B){l}(hl:∀q∈l,yJ B.1.length q)(bS:l.length≤64) t {f n}(hn:n≤l.length)(h:kT B (yZ l t) (g9 (yZ l t) B.1.length) f n):
  PX k B.1 B.2.1 B.2.2.1 B.2.2.2 l t=some (f,((n+1:Nat):Int)):=by
 have gG:=hb.n6;have hr:=xM l t;have h1:=PV (l:=yZ l t) (by omega) B.1.length;unfold PX;rw[Xj (by omega) (by show l.length≤1000;omega)];simp;have e:BR k k 0 B.1.length 0 B.1 B.2.1 B.2.2.1 B.2.2.2 [] (l.filter (ke t))=_:=X8 (k:=k) (B:=B) (l:=yZ l t) (by omega) (by show(yZ l t).length≤1000;omega) (by omega) (by omega) 0;rw[e];simp;rw[Ya hk hb (K2 hl) (by omega) h k 0 (xL _ _) h1.1 h1.2 (by omega) (by omega) (by omega)];simp
def vG2 {k}{C:BT}{l hs:List zH}(hl:l.length<k)(dN:l.length≤1000)(hk:hs.length<k)(hh:hs.length≤1000):
  BS k k l hs.length 0 C.1 C.2.1 C.2.2.1 C.2.2.2 hs=some (pB l hs,C.1,C.2.1,C.2.2.1,C.2.2.2,hs):=by
 obtain ⟨s', h1, h2⟩ := yW (L := fun n i (s : List zH) => BS k n s hs.length i C.1 C.2.1 C.2.2.1 C.2.2.2 hs) (N := hs.length) (fun s => (s, C.1, C.2.1, C.2.2.1, C.2.2.2, hs)) (fun i s => s = pB l (hs.take i)) (fun n s _=>by
  show Gq k _ s hs.length hs.length C.1 C.2.1 C.2.2.1 C.2.2.2 hs=_;unfold Gq;simp) (fun n i s hi hr=>by
  refine⟨_,?_,(yRc l hs i hi).symm⟩;show Gq k _ s hs.length i C.1 C.2.1 C.2.2.1 C.2.2.2 hs=_;unfold Gq;have eX:=(PW (hs.take i) l).1;rw[←hr] at eX⊢;simp[qC,aa hi,BK (show s.length<k by omega) (show qT s by show s.length≤1000;omega),qD hi (by grind)];rfl) (s:=l) hk rfl
 simp_all
def Yc {k:Nat}(hk:100<k){B:BT}(hb:qP B){l:List zH}(hl:∀q∈l,yJ B.1.length q)(bS:l.length≤64)(t:Int){f:AC}{n:Nat}(hn:n≤l.length)(h:kT B (yZ l t) (g9 (yZ l t) B.1.length) f n)
  {r:List yA×EQ×AC×EQ×Int} (hr:qt k B.1 B.2.1 B.2.2.1 B.2.2.2 (vP (yZ l t) f)=some r):BU k B.1 B.2.1 B.2.2.1 B.2.2.2 l t=some (Gf B l (vP (yZ l t) f) r):=by
 have gG:=hb.n6;have tP:=xM l t;have h1:=PV (l:=yZ l t) (by omega) B.1.length;have hle:=h.le (xL _ _);have h0:=h.nonneg (K2 hl) (xL _ _) h1.1;have AO:f.length=B.1.length:=hle.1.trans (xL _ _);have hf:∀i,f.getD i 0≤1000:=fun i=>by
  by_cases c:i<(g9 (yZ l t) B.1.length).length
  ·have:=hle.2 i c;have:=h1.2 i;omega
  ·rw[List.getD_eq_getElem?_getD,List.getElem?_eq_none (by have:=hle.1;omega)];show(0:Int)≤1000;omega
 have PY:=(xK (yZ l t) f).length_le;unfold BU;rw[vQu hk hb hl bS t hn h,Xj (by omega) (by show l.length≤1000;omega)];simp only[ae];have e:Gg k (l.filter (ke t)) f=_:=X1 (k:=k) (l:=yZ l t) (by omega) (by show(yZ l t).length≤1000;omega) h0 hf (by omega);rw[e];simp only[ae];rw[hr];simp only[ae];unfold Gf;cases decide (r.2.2.2.2=0) with
 |false=>rfl
 |true=>
  simp only[aA,ak];have e2:BS k k l ((List.length (vP (yZ l t) f):Nat):Int) 0 r.1 r.2.1 r.2.2.1 r.2.2.2.1 (vP (yZ l t) f)=_:=vG2 (C:=(r.1,r.2.1,r.2.2.1,r.2.2.2.1)) (by omega) (by omega) (by omega) (by omega);rw[e2];rfl
def Yd {l x}(hx:x<l.length):List.Perm (l.getD x pd::yF l x) l:=by
 unfold yF;have h:List.Perm (l.getD x pd::(l.take x++l.drop (x+1))) (l.take x++l.getD x pd::l.drop (x+1)):=by grind
 simp_all
def PZ {l}(hd:qM l){p}(hp:p∈l):List.Perm (p::ft l p.1) l:=by
 obtain⟨x,hx⟩:=Pv hp;have h:=kR hx;have e:l.getD x pd=p:=hd.eq_of (by grind) hp h.2;unfold ft iB;have:=Yd h.1;simp_all
def gZ.perm {k t B C l done m}(h:gZ k t B l done C m)(hd:qM l):List.Perm (done++m) l:=by
 induction h with
 |stop _=>rfl
 |step h _ ih=>
  have hp:=F5 (BP h).1;exact((ih (List.Pairwise.sublist (uJ hp).2 hd)).cons _).trans (PZ hd hp)
def jZ.perm {k t B C l done m}(h:jZ k t B l done C m)(hd:qM l):List.Perm (done++m) l:=by
 induction h with
 |stop _=>rfl
 |step h _ ih=>
  obtain⟨hp,hq,pz,_⟩:=F9 h;obtain⟨h1,h2⟩:=Ga hd hp hq pz;have wu:qM (ft _ _):=List.Pairwise.sublist (uJ hp).2 hd;have pw:=XS hp hq (yRp hd hp hq pz);exact(((ih (List.Pairwise.sublist h2 hd)).cons _).cons _).trans (((PZ wu pw).cons _).trans (PZ hd hp))
def gZ.final {k t B C l done m}(h:gZ k t B l done C m):eu k C (vT m t)=none:=by
 induction h with
 |stop h=>exact h
 |step _ _ ih=>exact ih
def jZ.final {k t B C l done m}(h:jZ k t B l done C m):fV k C m t=none:=by
 induction h with
 |stop h=>exact h
 |step _ _ ih=>exact ih
def qM.perm {l m}(h:qM l)(hp:List.Perm m l):qM m:=(List.Perm.pairwise_iff (R:=fun p q:zH=>p.1≠q.1) (by grind) hp.symm).1 h
inductive mr (k:Nat) (t:Int):BT→List zH→List zH→BT→List zH→Prop
 |stop {B C:BT} {l m d:List zH} (h1:gZ k t B l d C m) (h2:fV k C m t=none):mr k t B l d C m
 |step {B C D E:BT} {l m n o d e f:List zH} (h1:gZ k t B l d C m) (h2:jZ k t C m e D n) (ne:e≠[]) (h':mr k t D n f E o):mr k t B l (d++e++f) E o
def mr.perm {k t B C l done m}(h:mr k t B l done C m)(hd:qM l):List.Perm (done++m) l:=by
 induction h with
 |stop h1 _=>exact h1.perm hd
 |@step B C D E l m n o d e f h1 h2 ne h' ih=>
  have p1:=h1.perm hd;have hd1:=hd.perm p1;have hm:qM m:=(List.pairwise_append.1 hd1).2.1;have p2:=h2.perm hm;have hn:qM n:=(List.pairwise_append.1 (hm.perm p2)).2.1;grind
def mr.final {k t B C l done m}(h:mr k t B l done C m):eu k C (vT m t)=none∧fV k C m t=none:=by
 induction h with
 |stop h1 h2=>exact⟨h1.final,h2⟩
 |step _ _ _ _ ih=>exact ih
def gZ.none {k t B C l done m}(h:gZ k t B l done C m)(hn:eu k B (vT l t)=none):done=[]∧C=B∧m=l:=by
 cases h with
 |stop _=>simp
 |step h _=>simp_all
def jZ.none {k t B C l done m}(h:jZ k t B l done C m)(hn:fV k B l t=none):done=[]∧C=B∧m=l:=by
 cases h with
 |stop _=>simp
 |step h _=>simp_all
def jZ.nil {k t B C l m}(h:jZ k t B l [] C m):fV k B l t=Option.none∧C=B∧m=l:=by
 cases h with
 |stop h=>simp_all
def mr.none {k t B C l done m}(h:mr k t B l done C m)(h1:eu k B (vT l t)=Option.none)(h2:fV k B l t=Option.none):done=[]∧C=B∧m=l:=by
 cases h with
 |stop g1 _=>exact g1.none h1
 |step g1 g2 ne _=>
  obtain⟨rfl,rfl,rfl⟩:=g1.none h1;obtain⟨rfl,_,_⟩:=g2.none h2;simp_all
def yZn {k:Nat}(hk:200≤k)(t:Int):∀(n:Nat) (B:BT) (l r:List zH),qP B→qM l→l.length≤100→l.length<n→r.length+l.length≤900→
  ∃(C:BT) (m done:List zH),K6 k n t l B.1 B.2.1 B.2.2.1 B.2.2.2 r=some (m,C.1,C.2.1,C.2.2.1,C.2.2.2,r++done)∧mr k t B l done C m∧qP C∧C.1.length=B.1.length∧List.Sublist m l
 |0,_,_,_,_,_,_,h,_=>absurd h (Nat.not_lt_zero _)
 |n+1,B,l,r,hb,hd,hl,hn,hr=>by
  obtain⟨C,m,d,f1,f2,f3,f4,f5⟩:=vT3 hk hb hd hl t;have p1:=f2.perm hd;have l1:=p1.length_eq;rw[List.length_append] at l1;have hm:qM m:=List.Pairwise.sublist f5 hd;obtain⟨D,o,e,g1,g2,g3,g4,g5⟩:=vNa hk f3 hm (by omega) t;have p2:=g2.perm hm;have l2:=p2.length_eq;rw[List.length_append] at l2;have r1:zL (r.length+d.length) 56=true:=qI (by omega) (by omega);have r2:zL ((r++d).length+e.length) 56=true:=qI (by rw[List.length_append];omega) (by grind);show∃C' m' ad6,P0 k _ t l B.1 B.2.1 B.2.2.1 B.2.2.2 r=_∧_;unfold P0;rw[f1];simp only[ae];rw[g1];simp only[ae,r1,r2,ag];cases e with
  |nil=>
   obtain⟨h1,h2,h3⟩:=g2.nil;subst h2;subst h3;refine⟨D,o,d,?_,.stop f2 h1,f3,f4,f5⟩;simp
  |cons p e=>
   have bm:o.length+(e.length+1)=m.length:=by simp at l2;omega
   obtain⟨E,q,f,k1,k2,k3,k4,k5⟩:=yZn hk t n D o (r++d++(p::e)) g3 (List.Pairwise.sublist g5 hm) (by omega) (by omega) (by simp;omega);refine⟨E,q,d++(p::e)++f,?_,.step f2 g2 (by simp) k2,k3,k4.trans (g4.trans f4),k5.trans (g5.trans f5)⟩;grind
def Gr {k}(hk:200≤k){B}(hb:qP B){l}(hd:qM l)(hl:l.length≤100) t:
  ∃(C:BT) (m done:List zH),K7 k B.1 B.2.1 B.2.2.1 B.2.2.2 l t=some (C.1,C.2.1,C.2.2.1,C.2.2.2,m,done)∧mr k t B l done C m∧qP C∧C.1.length=B.1.length∧List.Sublist m l:=by
 obtain⟨C,m,done,h1,h3⟩:=yZn hk t k B l [] hb hd hl (by omega) (by grind);refine⟨C,m,done,?_,h3⟩;unfold K7;simp_all
def vF9:∀hs l,qM l→qM hs→(∀q∈hs,q∈l)→List.Perm (hs++pB l hs) l
 |[],l,_,_,_=>List.Perm.refl _
 |p::hs,l,hd,hh,fH=>by
  have hp:=fH p (by simp);obtain⟨h1,h2⟩:=uJ hp;have hc:=List.pairwise_cons.1 hh;have:=vF9 hs (ft l p.1) (List.Pairwise.sublist h2 hd) hc.2 (fun q hq=>XS hp (by grind) (by grind));exact(this.cons p).trans (PZ hd hp)
def vQo {k}(hk:100<k){B}(hb:qP B):qt k B.1 B.2.1 B.2.2.1 B.2.2.2 []=some (B.1,B.2.1,B.2.2.1,B.2.2.2,0):=by
  obtain⟨r,h1,h3⟩:=O9 hk hb (l:=[]) (by simp);have aR:wJ B.1.length []:=⟨by simp,by simp⟩;obtain⟨a',p',h4,h5⟩:=h3.1 aR;have an:uz B.1.length B.1 B.2.2.2 [] B.1 B.2.2.2:={
    al:=rfl
    acct:=fun i hi=>by
      have hr:0≤(B.1.getD i ad).2.2:=by
        have:=hb.nums.res i hi;omega
      show B.1.getD i ad=((B.1.getD i ad).1+0,(B.1.getD i ad).2.1,jJ (B.1.getD i ad).2.2 0);have e:jJ (B.1.getD i ad).2.2 0=(B.1.getD i ad).2.2:=by
        unfold jJ;omega
      simp_all
    pl:=hb.pl
    pr:=hb.pr
    cell:=fun i hi j hj=>by show _=_+0-0;omega}
  obtain⟨e1,e2⟩:=h4.same an;subst e1;subst e2;rw[OW.2 hb] at h5;simp_all
def Ye {k:Nat}(hk:200≤k){B:BT}(hb:qP B){l:List zH}(hd:qM l)(hl:∀q∈l,yJ B.1.length q)(bS:l.length≤64)(t:Int):
  ∃(C:BT) (m done:List zH),BU k B.1 B.2.1 B.2.2.1 B.2.2.2 l t=some (C.1,C.2.1,C.2.2.1,C.2.2.2,m,done)∧qP C∧C.1.length=B.1.length∧List.Sublist m l∧List.Perm (done++m) l∧(done=[]→C=B∧m=l):=by
 obtain⟨f,n,h,hn⟩:=XZ hb hl bS t;have tP:=xM l t;have cO:=xK (yZ l t) f;have PY:=cO.length_le;obtain⟨r,h1,h2,h3⟩:=F4 (k:=k) (by omega) hb (l:=vP (yZ l t) f) (by omega);have hs:=PK hb h3;have g1:=Yc (k:=k) (by omega) hb hl bS t (by omega) h h1;unfold Gf at g1;cases c:decide (r.2.2.2.2=0) with
 |false=>
  rw[c] at g1;exact⟨B,l,[],g1,hb,rfl,List.Sublist.refl _,List.Perm.refl _,fun _=>⟨rfl,rfl⟩⟩
 |true=>
  rw[c] at g1;have eX:List.Sublist (vP (yZ l t) f) l:=cO.trans List.filter_sublist;have hal:r.1.length=B.1.length:=by
   by_cases c':wJ B.1.length (vP (yZ l t) f)
   ·obtain⟨a',p',x,e⟩:=h3.1 c';cases hi:np a' B.2.1 B.2.2.1 p' with
    |false=>rw[hi] at e;subst e;rfl
    |true=>rw[hi] at e;subst e;exact x.al
   ·rw[h3.2 c']
  refine⟨(r.1,r.2.1,r.2.2.1,r.2.2.2.1),pB l (vP (yZ l t) f),vP (yZ l t) f,g1,hs.2.1,hal,(PW _ _).2,vF9 _ _ hd (List.Pairwise.sublist eX hd) (fun q hq=>eX.subset hq),fun e=>?_⟩;rw[e] at h1⊢;rw[vQo (by omega) hb] at h1;cases h1;exact⟨rfl,rfl⟩
def yX1 {k}(hk:200≤k){B}(hb:qP B){l}(hd:qM l)(hl:∀q∈l,yJ B.1.length q)(bS:l.length≤64) t all:
  ∃(C:BT) (m done:List zH),uN k B.1 B.2.1 B.2.2.1 B.2.2.2 l t all=some (C.1,C.2.1,C.2.2.1,C.2.2.2,m,done)∧qP C∧C.1.length=B.1.length∧List.Sublist m l∧List.Perm (done++m) l∧eu k C (vT m t)=none∧fV k C m t=none:=by
 obtain⟨C,m,d,f1,f2,f3,f4,f5⟩:=Gr hk hb hd (by omega) t;have p1:=f2.perm hd;have l1:=p1.length_eq;rw[List.length_append] at l1;unfold uN;rw[f1];simp only[ae];cases all with
 |false=>exact⟨C,m,d,rfl,f3,f4,f5,p1,f2.final⟩
 |true=>
  have hm:qM m:=List.Pairwise.sublist f5 hd;obtain⟨D,n,x,g1,g2,g3,g4,g5,g6⟩:=Ye hk f3 hm (by grind) (by omega) t;have l2:=g5.length_eq;rw[List.length_append] at l2;rw[g1];simp only[ae];cases x with
  |nil=>
   obtain⟨rfl,rfl⟩:=g6 rfl;exact⟨D,n,d,rfl,f3,f4,f5,p1,f2.final⟩
  |cons p x=>
   have e1:decide ((((p::x).length:Nat):Int)=0)=false:=by grind
   have hn:qM n:=List.Pairwise.sublist g4 hm;obtain⟨E,o,y,k1,k2,k3,k4,k5⟩:=Gr hk g2 hn (by omega) t;have p3:=k2.perm hn;have l3:=p3.length_eq;rw[List.length_append] at l3;have r1:zL (d.length+(p::x).length) 56=true:=qI (by omega) (by omega);have r2:zL ((d++(p::x)).length+y.length) 56=true:=qI (by simp at l2⊢;omega) (by simp at l2⊢;omega);rw[k1];simp only[ae,r1,r2];refine⟨E,o,d++(p::x)++y,rfl,k3,k4.trans (g3.trans f4),k5.trans (g4.trans f5),?_,k2.final⟩;have e2:d++(p::x)++y++o=d++((p::x)++(y++o)):=by simp
   rw[e2];exact((p3.append_left (p::x)).append_left d).trans ((g5.append_left d).trans p1)
abbrev qY:=Int×Int×Int×Int×Int×Int×Int×Int
instance BV:DecidableEq qY:=@instDecidableEqProd Int (Int×Int×Int×Int×Int×Int×Int) inferInstance (@instDecidableEqProd Int (Int×Int×Int×Int×Int×Int) inferInstance inferInstance)
def fP (to:Int)(p:zH):qY:=(to,18,p.1,p.2.1,p.2.2.1,p.2.2.2.1,0,0)
def ta (p:zH):List qY:=[fP p.2.1 p,fP p.2.2.1 p]
def vC:List zH→List qY
 |[]=>[]
 |p::l=>ta p++vC l
def yRr:∀l m,vC (l++m)=vC l++vC m
 |[],_=>rfl
 |p::l,m=>by
  show ta p++vC (l++m)=ta p++vC l++vC m;rw[yRr l m,List.append_assoc]
def BW:∀l,(vC l).length=2*l.length
 |[]=>rfl
 |p::l=>by
  show(ta p++vC l).length=_;rw[List.length_append,BW l];simp[ta];omega
def vFg (l:List zH) i (hi:i<l.length):vC (l.take (i+1))=vC (l.take i)++ta (l.getD i pd):=by
 rw[←fc l i pd hi,yRr];rfl
def xN {n}(h:n≤1000):zL (n+1) 64=true:=qI (by omega) (by omega)
def Yf {k}(hk:3≤k)(s8:List zH) s9 aw (r:List qY)(hr:r.length≤900) p:
  xO k k s8 s9 aw 2 0 r p.1 p.2.1 p.2.2.1 p.2.2.2.1 p.2.2.2.2.1 p.2.2.2.2.2.1 p.2.2.2.2.2.2 [p.2.1,p.2.2.1]=some (s8,s9,aw,r++ta p):=by
 obtain⟨n,rfl⟩:∃n,k=n+3:=⟨k-3,by omega⟩;have e1:zL (r.length+1) 64=true:=xN (by omega);have e2:zL ((r++[fP p.2.1 p]).length+1) 64=true:=xN (by grind);have h1:re (n+3) p.2.1 18 [p.1,p.2.1,p.2.2.1,p.2.2.2.1]=some (fP p.2.1 p):=rfl;have h2:re (n+3) p.2.2.1 18 [p.1,p.2.1,p.2.2.1,p.2.2.2.1]=some (fP p.2.2.1 p):=rfl;have w0:zA (0+1)=1:=by decide
 have w1:zA (1+1)=2:=by decide
 show xP (n+3) (xO (n+3) (n+2)) s8 s9 aw 2 0 r p.1 p.2.1 p.2.2.1 p.2.2.2.1 p.2.2.2.2.1 p.2.2.2.2.2.1 p.2.2.2.2.2.2 [p.2.1,p.2.2.1]=_;unfold xP;have g0:[p.2.1,p.2.2.1].getD (Int.toNat 0) 0=p.2.1:=rfl;have b0:zB 0 [p.2.1,p.2.2.1].length=true:=rfl;have d0:decide ((0:Int)<2)=true:=rfl;simp[e1];show xP (n+3) (xO (n+3) (n+1)) s8 s9 aw 2 1 (r++[fP p.2.1 p]) p.1 p.2.1 p.2.2.1 p.2.2.2.1 p.2.2.2.2.1 p.2.2.2.2.2.1 p.2.2.2.2.2.2 [p.2.1,p.2.2.1]=_;unfold xP;have g1:[p.2.1,p.2.2.1].getD (Int.toNat 1) 0=p.2.2.1:=rfl;have b1:zB 1 [p.2.1,p.2.2.1].length=true:=rfl;have d1:decide ((1:Int)<2)=true:=rfl;simp only[ag,ae,e2];show xP (n+3) (xO (n+3) n) s8 s9 aw 2 2 (r++[fP p.2.1 p]++[fP p.2.2.1 p]) p.1 p.2.1 p.2.2.1 p.2.2.2.1 p.2.2.2.2.1 p.2.2.2.2.2.1 p.2.2.2.2.2.2 [p.2.1,p.2.2.1]=_;unfold xP;have d2:decide ((2:Int)<2)=false:=rfl;rw[d2,List.append_assoc];rfl
def Yg {k}{l:List zH}(hk:l.length+3≤k)(hl:l.length≤400):P1 k l=some (vC l):=by
 unfold P1;obtain ⟨s', h1, h2⟩ := yW (L := fun n i (s : List qY) => K8 k n l l.length i s) (N := l.length) (fun s => s) (fun i s => s = vC (l.take i)) (fun n s _=>by
  show Gs k _ l l.length l.length s=_;unfold Gs;simp) (fun n i s hi hs=>by
  refine⟨_,?_,(vFg l i hi).symm⟩;show Gs k _ l l.length i s=_;unfold Gs;have eX:s.length≤900:=by
   rw[hs,BW,List.length_take];omega
  have h2:=Yf (k:=k) (by omega) l l.length i s eX (l.getD i pd);simp only[qC,qU,ao,aa hi,ag];rw[h2];simp[qD hi (by grind)];rw[hs]) (s:=[]) (show l.length<k by omega) rfl
 simp_all
def vMx {k}{l:List zH}(hk:l.length+5≤k)(hl:l.length≤400):P2 k l=some (vC l):=by
 unfold P2;obtain ⟨s', h1, h2⟩ := yW (L := fun n i (s : List qY) => K9 k n l i s) (N := l.length) (fun s => s) (fun i s => s = vC (l.take i)) (fun n s _=>by
  show Gt k _ l l.length s=_;unfold Gt;simp) (fun n i s hi hs=>by
  refine⟨_,?_,(vFg l i hi).symm⟩;show Gt k _ l i s=_;unfold Gt;have eX:s.length≤900:=by
   rw[hs,BW,List.length_take];omega
  obtain⟨j,rfl⟩:∃j,k=j+5:=⟨k-5,by omega⟩;have e2:zL (s.length+2) 64=true:=qI (by omega) (by omega);simp[qC,aa hi,e2,qD hi (by grind)];rw[hs];rfl) (s:=[]) (show l.length<k by omega) rfl
 simp_all
def gf (q:zH)(o:qY):Bool:=decide (o.2.2.1=q.1)&&(decide (o.1=q.2.1)&&(decide (o.2.1=21)||(decide (o.2.1=22)||decide (o.2.1=18))))
def kU (q:zH)(o:List qY):Nat:=o.countP (gf q)
def BX q a b:kU q (a++b)=kU q a+kU q b:=List.countP_append
def Yh {f:zH→Bool}{q:zH}:∀{ps:List zH},qM ps→q∈ps→f q=true→(∀p∈ps,f p=true→p.1=q.1)→ps.countP f=1
 |[],_,h,_,_=>by cases h
 |p::ps,hd,hq,hf,hu=>by
  have hc:=List.pairwise_cons.1 hd;rw[List.countP_cons];rcases List.mem_cons.1 hq with rfl|hq
  ·rw[hf,if_pos rfl];have:ps.countP f=0:=by
    rw[List.countP_eq_zero];intro r hr Bb;exact hc.1 r hr (hu r (List.mem_cons_of_mem _ hr) Bb).symm
   omega
  ·have:f p=false:=by
    cases h:f p with
    |false=>rfl
    |true=>exact absurd (hu p (List.mem_cons_self ..) h) (hc.1 q hq)
   rw[this,Yh hc.2 hq hf (fun r hr=>hu r (List.mem_cons_of_mem _ hr))];rfl
def wT (kd:Int)(p:zH):qY:=(p.2.1,kd,p.1,0,0,0,0,0)
def Gu {kd:Int}(hk:kd=21∨kd=22){q:zH}{ps:List zH}(hd:qM ps):(q∈ps→kU q (ps.map (wT kd))=1)∧((∀p∈ps,p.1≠q.1)→kU q (ps.map (wT kd))=0):=by
 unfold kU;rw[List.countP_map];constructor
 ·intro h;apply Yh hd h
  ·show gf q (wT kd q)=true;unfold gf wT;rcases hk with rfl|rfl<;>simp
  ·intro p hp hf;have ez:gf q (wT kd p)=true:=hf;unfold gf wT at ez;rw[bb,aW] at ez;exact ez.1
 ·intro h;rw[List.countP_eq_zero];intro p hp hf;have ez:gf q (wT kd p)=true:=hf;unfold gf wT at ez;rw[bb,aW] at ez;exact h p hp ez.1
def yIp q:∀d,kU q (vC d)=d.countP (fun p=>gf q (fP p.2.1 p))+d.countP (fun p=>gf q (fP p.2.2.1 p))
 |[]=>rfl
 |p::d=>by
  show kU q (ta p++vC d)=_;rw[BX,yIp q d,List.countP_cons,List.countP_cons];have e:kU q (ta p)=(if gf q (fP p.2.1 p)=true then 1 else 0)+(if gf q (fP p.2.2.1 p)=true then 1 else 0):=by
   unfold kU ta;grind
  omega
def P3 {n:Nat}{q:zH}{d:List zH}(hd:qM d)(hm:∀p∈d,yJ n p):(q∈d→kU q (vC d)=1)∧((∀p∈d,p.1≠q.1)→kU q (vC d)=0):=by
 have h2:∀(l:List zH),qM l→(∀p∈l,yJ n p)→(q∈l∨∀p∈l,p.1≠q.1)→l.countP (fun p=>gf q (fP p.2.2.1 p))=0:=by
  intro l pn F7 hq;rw[List.countP_eq_zero];intro p hp hf;have ez:gf q (fP p.2.2.1 p)=true:=hf;unfold gf fP at ez;rw[bb,bb,aW,aW] at ez;rcases hq with hq|hq
  ·have:=pn.eq_of hp hq ez.1;subst this;exact(F7 p hp).ne ez.2.1.symm
  ·exact hq p hp ez.1
 rw[yIp];constructor
 ·intro h;rw[h2 d hd hm (.inl h),Yh hd h]
  ·show gf q (fP q.2.1 q)=true;unfold gf fP;simp
  ·intro p hp hf;have ez:gf q (fP p.2.1 p)=true:=hf;unfold gf fP at ez;rw[bb,aW] at ez;exact ez.1
 ·intro h;rw[h2 d hd hm (.inr h)];have:d.countP (fun p=>gf q (fP p.2.1 p))=0:=by
   rw[List.countP_eq_zero];intro p hp hf;have ez:gf q (fP p.2.1 p)=true:=hf;unfold gf fP at ez;rw[bb,aW] at ez;exact h p hp ez.1
  omega
def xQ (B:BT)(i:Nat):qY:=((i:Int),23,(B.1.getD i ad).1,0,0,0,0,0)
def iT (B:BT)(n:Nat):List qY:=(List.range n).map (xQ B)
def yNf q B n:kU q (iT B n)=0:=by
 unfold kU iT;rw[List.countP_map,List.countP_eq_zero];intro i _ hf;have ez:gf q (xQ B i)=true:=hf;unfold gf xQ at ez;simp at ez
def vEs B i:iT B (i+1)=iT B i++[xQ B i]:=by
 unfold iT;rw[List.range_succ,List.map_append];rfl
def yUr {α β:Type}(f:α→β)(l:List α) i d (h:i<l.length):(l.take (i+1)).map f=(l.take i).map f++[f (l.getD i d)]:=by
 rw[←fc l i d h,List.map_append];rfl
def yLh {k B}(hB:B.1.length≤6)(hk:200≤k){m:List zH}(hm:m.length≤100) t pr ho ids to ov:
  P4 k t B.1 B.2.1 B.2.2.1 B.2.2.2 pr ho m ids to ov=some (t,B.1,B.2.1,B.2.2.1,B.2.2.2,pr,ho,[],ids,to,true,m.map (wT 22)++iT B B.1.length):=by
 unfold P4;obtain ⟨s', h1, h2⟩ := yW (L := fun n i (s : List qY) => Gv k n m m.length i t B.1 B.2.1 B.2.2.1 B.2.2.2 pr ho m ids to ov 0 0 false s) (N := m.length) (fun s => (t, B.1, B.2.1, B.2.2.1, B.2.2.2, pr, ho, m, ids, to, ov, 0, 0, false, s)) (fun i s => s = (m.take i).map (wT 22)) (fun n s _=>by
  show Gw k _ m m.length m.length t B.1 B.2.1 B.2.2.1 B.2.2.2 pr ho m ids to ov 0 0 false s=_;unfold Gw;simp) (fun n i s hi hs=>by
  refine⟨_,?_,(yUr (wT 22) m i pd hi).symm⟩;show Gw k _ m m.length i t B.1 B.2.1 B.2.2.1 B.2.2.2 pr ho m ids to ov 0 0 false s=_;unfold Gw;have eX:s.length≤900:=by grind
  have Gx:re k (m.getD i pd).2.1 22 [(m.getD i pd).1]=some (wT 22 (m.getD i pd)):=rfl;simp only[qC,qU,ao,aa hi,ag,Gx,ae,xN (show s.length≤1000 by omega),qD hi (by grind)];rw[hs]) (s:=[]) (show m.length<k by omega) rfl
 have gz:Gv k k m m.length 0 t B.1 B.2.1 B.2.2.1 B.2.2.2 pr ho m ids to ov 0 0 false []=_:=h1;rw[gz,h2,List.take_length];obtain ⟨s2, g1, g2⟩ := yW (L := fun n i (s : List qY) => La k n B.1 B.1.length i t B.1 B.2.1 B.2.2.1 B.2.2.2 pr ho m ids to ov 0 0 false s) (N := B.1.length) (fun s => (t, B.1, B.2.1, B.2.2.1, B.2.2.2, pr, ho, m, ids, to, ov, 0, 0, false, s)) (fun i s => s = m.map (wT 22) ++ iT B i) (fun n s _=>by
  show Gy k _ B.1 B.1.length B.1.length t B.1 B.2.1 B.2.2.1 B.2.2.2 pr ho m ids to ov 0 0 false s=_;unfold Gy;simp) (fun n i s hi hs=>by
  refine⟨_,?_,(show m.map (wT 22)++iT B i++[xQ B i]=m.map (wT 22)++iT B (i+1) by rw[vEs,List.append_assoc])⟩;show Gy k _ B.1 B.1.length i t B.1 B.2.1 B.2.2.1 B.2.2.2 pr ho m ids to ov 0 0 false s=_;unfold Gy;have eX:s.length≤900:=by
   rw[hs,List.length_append,List.length_map];unfold iT;grind
  have Gx:re k i 23 [(B.1.getD i ad).1]=some (xQ B i):=rfl;have ho3:re k i 23 [(B.1.getD i (0,0,0)).1]=some (xQ B i):=Gx;simp only[qC,qU,ao,aa hi,ag,ho3,ae,xN (show s.length≤1000 by omega),qD hi (by grind)];rw[hs]) (s:=m.map (wT 22)) (show B.1.length<k by omega) (by show _=_++[];simp)
 simp_all
def vI (t:Int)(p:zH):Bool:=decide (t>p.2.2.2.2.2.2)
def vCq {k:Nat}(hk:200≤k){m:List zH}(hm:m.length≤100)(pa:Int)(as:List (Int×Int))(cu cl pe t:Int)(B:BT)(pr:AC)(ho:EQ)(ids:AC)(to:Int)(ov:Bool):
  Gz k k m m.length 0 pa as cu cl pe t B.1 B.2.1 B.2.2.1 B.2.2.2 pr ho m ids to ov 0 0 false [] []=some (pa,as,cu,cl,pe,t,B.1,B.2.1,B.2.2.1,B.2.2.2,pr,ho,m,ids,to,ov,0,0,false,(m.filter (vI t)).map (wT 21),m.filter (fun p=> !vI t p)):=by
 obtain ⟨s', h1, h2, h3⟩ := yW (L := fun n i (s : List qY × List zH) => Gz k n m m.length i pa as cu cl pe t B.1 B.2.1 B.2.2.1 B.2.2.2 pr ho m ids to ov 0 0 false s.1 s.2) (N := m.length) (fun s => (pa, as, cu, cl, pe, t, B.1, B.2.1, B.2.2.1, B.2.2.2, pr, ho, m, ids, to, ov, 0, 0, false, s.1, s.2)) (fun i s => s.1 = ((m.take i).filter (vI t)).map (wT 21) ∧ s.2 = (m.take i).filter (fun p => !vI t p)) (fun n s _=>by
  show GA k _ m m.length m.length pa as cu cl pe t B.1 B.2.1 B.2.2.1 B.2.2.2 pr ho m ids to ov 0 0 false s.1 s.2=_;unfold GA;simp only [qU, ab (Nat.lt_irrefl _), ak]) (fun n i s hi hs=>by
  have tN:s.1.length≤900:=by
   rw[hs.1,List.length_map];have:=List.length_filter_le (vI t) (m.take i);rw[List.length_take] at this;omega
  have mZ:s.2.length≤900:=by
   rw[hs.2];have:=List.length_filter_le (fun p=> !vI t p) (m.take i);rw[List.length_take] at this;omega
  show∃s',GA k _ m m.length i pa as cu cl pe t B.1 B.2.1 B.2.2.1 B.2.2.2 pr ho m ids to ov 0 0 false s.1 s.2=_∧_;unfold GA Yi;have Gx:re k (m.getD i pd).2.1 21 [(m.getD i pd).1]=some (wT 21 (m.getD i pd)):=rfl;simp only[pd] at Gx;simp only[qC,qU,ao,aa hi,ag,Gx,ae,xN (show s.1.length≤1000 by omega),oq (show s.2.length≤1000 by omega),qD hi (show m.length<9223372036854775808 by omega)];have f1:=BG (vI t) m i pd hi;have f2:=BG (fun p=> !vI t p) m i pd hi;cases hb:vI t (m.getD i pd) with
  |true=>
   have bE:decide (t>(m.getD i (0,0,0,0,0,0,0)).2.2.2.2.2.2)=true:=hb;rw[bE];refine⟨(s.1++[wT 21 (m.getD i pd)],s.2),rfl,?_,?_⟩
   ·show s.1++_=_;rw[f1,hb,hs.1];simp
   ·show s.2=_;rw[f2,hb,hs.2];simp
  |false=>
   have bE:decide (t>(m.getD i (0,0,0,0,0,0,0)).2.2.2.2.2.2)=false:=hb;rw[bE];refine⟨(s.1,s.2++[m.getD i pd]),rfl,?_,?_⟩
   ·show s.1=_;rw[f1,hb,hs.1];simp
   ·show s.2++_=_;rw[f2,hb,hs.2];simp) (s:=([],[])) (show m.length<k by omega) ⟨rfl,rfl⟩
 have:=h1.trans (by rw[h2,h3,List.take_length]);exact this
structure vSd (t cl:Int) (B C:BT) (m m':List zH) (ov:Bool) (o:List qY):Prop where
 bk:qP C
 bl:C.1.length=B.1.length
 sub:List.Sublist m' m
 over:ov=decide (t+1=cl)
 none:ov=true→m'=[]
 late:ov=false→∀p∈m',vI (t+1) p=false
 PK:∀p∈m',kU p o=0
 iC:∀p∈m,p∉m'→kU p o=1
 quiet:∀q:zH,(∀p∈m,p.1≠q.1)→kU q o=0
 room:o.length+2*m'.length≤2*m.length+(if ov=true then 6 else 0)
def qM.not_in {l m d:List zH}(hd:qM (d++m)){p}(hp:p∈m):∀q∈d,q.1≠p.1:=fun q hq=>(List.pairwise_append.1 hd).2.2 q hq p hp
end Go.Ab.Gi
