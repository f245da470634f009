/- Plain proofs, part 0. -/
import Derived.Test.YthpehdcmpldloaaGreatGiAbC
import Derived.Test.YthpehdcmpldloaaGreatGiXS
set_option linter.unusedVariables false
set_option linter.unusedSimpArgs false
set_option maxRecDepth 100000
set_option linter.unusedSectionVars false
namespace Go.Ab
theorem aa {p:Prop}[Decidable p](h:p):decide p=true:=decide_eq_true h
theorem ab {p:Prop}[Decidable p](h:¬p):decide p=false:=decide_eq_false h
theorem Iv {p:Prop}[Decidable p](h:decide p=true):p:=of_decide_eq_true h
theorem gv {p:Prop}[Decidable p](h:decide p=false):¬p:=of_decide_eq_false h
theorem aY {p:Prop}[Decidable p]:(decide p=true)=p:=decide_eq_true_eq
theorem ae {α β:Type}(a:α)(f:α→Option β):(some a).bind f=f a:=rfl
theorem aj {α:Type}(a b:α):cond true a b=a:=rfl
theorem an {α:Type}(a b:α):cond false a b=b:=rfl
theorem aq (n:Nat):(n:Int).toNat=n:=rfl
theorem bb (a b:Bool):((a&&b)=true)=(a=true∧b=true):=Bool.and_eq_true a b
theorem aE:(!true)=false:=rfl
theorem cp:(!false)=true:=rfl
end Go.Ab
namespace Go.Ab
theorem zO {x:Int}(h1:-9223372036854775808≤x)(h2:x<9223372036854775808):zA x=x:=by
 unfold zA IntKind.wrap;simp only[IntKind.bits,IntKind.signed,Bool.true_and];by_cases h:x%2^64≥2^(64-1)
 ·rw[if_pos (by simpa using h)];omega
 ·rw[if_neg (by simpa using h)];omega
theorem qE {i N:Nat}(h:i<N)(hN:N<9223372036854775808):zA ((i:Int)+1)=((i+1:Nat):Int):=by
 rw[zO (by omega) (by omega)];rfl
theorem zw {n}(h:(Lit.int .i64 n).wf=true):-9223372036854775808≤n∧n<9223372036854775808:=by
 simp[Lit.wf,IntKind.min,IntKind.bits] at h;grind
theorem qC (i n:Nat):zB (i:Int) n=decide (i<n):=by
 unfold zB;simp
theorem wT {i:Int}{n:Nat}(h0:0≤i)(h1:i<n):zB i n=true:=by
 unfold zB;simp;omega
theorem qH {n b}(h:n*b≤140737488355328)(h':n≤140737488355328):zN n b=true:=by
 simp_all
theorem qU (i n:Nat):decide ((i:Int)<(n:Int))=decide (i<n):=by simp
theorem rD (i n:Nat):decide ((i:Int)=(n:Int))=decide (i=n):=by
 by_cases h:i=n
 ·subst h;simp
 ·rw[ab h,ab (by omega)]
def qG (p:Nat→Bool):Nat→Nat→Bool
 |0,_=>true
 |c+1,i=>p i&&qG p c (i+1)
theorem yGa {p:Nat→Bool}:∀{c i:Nat},qG p c i=true↔∀j,i≤j→j<i+c→p j=true
 |0,i=>by simp[qG];intro j h1 h2;omega
 |c+1,i=>by
  simp only[qG,bb,yGa (c:=c)];constructor
  ·rintro⟨h1,h2⟩ j h3 h4
   by_cases e:j=i
   ·subst e;exact h1
   ·exact h2 j (by omega) (by omega)
  ·intro h;exact⟨h i (Nat.le_refl i) (by omega),fun j h1 h2=>h j (by omega) (by omega)⟩
theorem gw {p c}:qG p c 0=true↔∀j,j<c→p j=true:=by
 rw[yGa];simp
theorem Ut {X:Type}{L:Nat→Int→Option X}{N:Nat} ok a b (bK:∀n,L (n+1) (N:Int)=some a)
  (aK:∀n i,i<N→L (n+1) (i:Int)=bif ok i then L n ((i+1:Nat):Int) else some b):∀c i n,i+c=N→c<n→L n (i:Int)=some (bif qG ok c i then a else b)
 |0,i,n,h,hn=>by
  obtain⟨n,rfl⟩:∃m,n=m+1:=⟨n-1,by omega⟩;have:i=N:=by omega
  subst this;exact bK n
 |c+1,i,n,h,hn=>by
  obtain⟨n,rfl⟩:∃m,n=m+1:=⟨n-1,by omega⟩;rw[aK n i (by omega)];unfold qG;cases ok i with
  |false=>rfl
  |true=>
   exact Ut ok a b bK aK c (i+1) n (by omega) (by omega)
theorem mn {X:Type}{L:Nat→Int→Option X}{N:Nat} ok a b (bK:∀n,L (n+1) (N:Int)=some a)
  (aK:∀n i,i<N→L (n+1) (i:Int)=bif ok i then L n ((i+1:Nat):Int) else some b) {n} (hn:N<n):L n 0=some (bif qG ok N 0 then a else b):=
 Ut ok a b bK aK N 0 n (by omega) hn
theorem yUt {L:Nat→Int→Option (Unit⊕Int)}{N:Nat}(bad:Nat→Bool)(bK:∀n,L (n+1) (N:Int)=some (.inl ()))
  (aK:∀n i,i<N→L (n+1) (i:Int)=bif bad i then some (.inr (i:Int)) else L n ((i+1:Nat):Int)):
  ∀c i n,i+c=N→c<n→(qG (fun j=> !bad j) c i=true∧L n (i:Int)=some (.inl ()))∨∃x:Nat,i≤x∧x<N∧bad x=true∧(∀j,i≤j→j<x→bad j=false)∧qG (fun j=> !bad j) c i=false∧L n (i:Int)=some (.inr (x:Int))
 |0,i,n,h,hn=>by
  obtain⟨n,rfl⟩:∃m,n=m+1:=⟨n-1,by omega⟩;have:i=N:=by omega
  subst this;exact .inl ⟨rfl,bK n⟩
 |c+1,i,n,h,hn=>by
  obtain⟨n,rfl⟩:∃m,n=m+1:=⟨n-1,by omega⟩;rw[aK n i (by omega)];unfold qG;cases hb:bad i with
  |true=>exact .inr ⟨i,Nat.le_refl i,by omega,hb,fun j h1 h2=>absurd h1 (by omega),rfl,rfl⟩
  |false=>
   simp only[an,cp,Bool.true_and];rcases yUt bad bK aK c (i+1) n (by omega) (by omega) with h1|⟨x,x1,x2,x3,x4,x5,x6⟩
   ·exact .inl h1
   ·refine .inr ⟨x,by omega,x2,x3,fun j h1 h2=>?_,x5,x6⟩;by_cases e:j=i
    ·subst e;exact hb
    ·exact x4 j (by omega) h2
theorem vn {L:Nat→Int→Option (Unit⊕Int)}{N:Nat}(bad:Nat→Bool)(bK:∀n,L (n+1) (N:Int)=some (.inl ()))
  (aK:∀n i,i<N→L (n+1) (i:Int)=bif bad i then some (.inr (i:Int)) else L n ((i+1:Nat):Int)) {n:Nat} (hn:N<n):
  ∃x:Unit⊕Int,L n 0=some x∧decide ((match x with|.inl _=>(-1:Int)|.inr y=>y)≥0)= !qG (fun j=> !bad j) N 0:=by
 rcases yUt bad bK aK N 0 n (by omega) hn with⟨h1,h2⟩|⟨x,_,_,_,_,h5,h6⟩
 ·exact⟨_,h2,by rw[h1];rfl⟩
 ·exact⟨_,h6,by rw[h5];simp⟩
theorem yV8 {S X:Type}{L:Nat→Int→S→Option X}{N}(e:S→X)(inv:Nat→S→Prop)(bK:∀n s,inv N s→L (n+1) (N:Int) s=some (e s))
  (aK:∀n i s,i<N→inv i s→∃s',L (n+1) (i:Int) s=L n ((i+1:Nat):Int) s'∧inv (i+1) s'):
  ∀c i n s,i+c=N→c<n→inv i s→∃s',L n (i:Int) s=some (e s')∧inv N s'
 |0,i,n,s,h,hn,hs=>by
  obtain⟨n,rfl⟩:∃m,n=m+1:=⟨n-1,by omega⟩;grind
 |c+1,i,n,s,h,hn,hs=>by
  obtain⟨n,rfl⟩:∃m,n=m+1:=⟨n-1,by omega⟩;obtain⟨s',h1,h2⟩:=aK n i s (by omega) hs;rw[h1];exact yV8 e inv bK aK c (i+1) n s' (by omega) (by omega) h2
theorem yS {S X:Type}{L:Nat→Int→S→Option X}{N}(e:S→X)(inv:Nat→S→Prop)(bK:∀n s,inv N s→L (n+1) (N:Int) s=some (e s))
 (aK:∀n i s,i<N→inv i s→∃s',L (n+1) (i:Int) s=L n ((i+1:Nat):Int) s'∧inv (i+1) s') {n s} (hn:N<n) (hs:inv 0 s):
 ∃s',L n 0 s=some (e s')∧inv N s':=yV8 e inv bK aK N 0 n s (by omega) hn hs
def zP {α:Type}(g:α→Int):List α→Int
 |[]=>0
 |p::l=>g p+zP g l
theorem lD {α} g:∀(l m:List α),zP g (l++m)=zP g l+zP g m
 |[],m=>by simp[zP]
 |p::l,m=>by
  show g p+zP g (l++m)=g p+zP g l+zP g m;rw[lD g l m];omega
theorem C9 {α g A}:∀{l:List α},(∀p∈l,-A≤g p∧g p≤A)→-(l.length*A)≤zP g l∧zP g l≤l.length*A
 |[],_=>by simp[zP]
 |p::l,h=>by
  have h1:=h p (by simp);have h2:=C9 (l:=l) fun q hq=>h q (by grind)
  have e:((p::l).length:Int)*A=(l.length:Int)*A+A:=by
   rw[List.length_cons,Int.natCast_add,Int.add_mul];simp
  show-_≤g p+zP g l∧g p+zP g l≤_;omega
theorem vp {α g}:∀{l:List α},(∀p∈l,0≤g p)→0≤zP g l
 |[],_=>by simp[zP]
 |p::l,h=>by
  have h1:=h p (by simp);have h2:=vp (l:=l) fun q hq=>h q (by grind)
  show 0≤g p+zP g l;omega
theorem yC4 {α} g h:∀(l:List α),zP (fun p=>g p+h p) l=zP g l+zP h l
 |[]=>rfl
 |p::l=>by
  show g p+h p+zP _ l=g p+zP g l+(h p+zP h l);rw[yC4 g h l];omega
theorem Uu {α} g h:∀(l:List α),zP (fun p=>g p-h p) l=zP g l-zP h l
 |[]=>rfl
 |p::l=>by
  show g p-h p+zP _ l=g p+zP g l-(h p+zP h l);rw[Uu g h l];omega
theorem M6 {α g h}:∀{l:List α},(∀p∈l,g p=h p)→zP g l=zP h l
 |[],_=>rfl
 |p::l,e=>by
  show g p+zP g l=h p+zP h l;rw[e p (by simp),M6 fun q hq=>e q (by grind)]
def qI (g:Nat→Int):Nat→Int
 |0=>0
 |n+1=>qI g n+g n
theorem Da g h:∀n,qI (fun j=>g j+h j) n=qI g n+qI h n
 |0=>rfl
 |n+1=>by
  show qI _ n+(g n+h n)=qI g n+g n+(qI h n+h n);rw[Da g h n];omega
theorem rE {g h}:∀{n},(∀j,j<n→g j=h j)→qI g n=qI h n
 |0,_=>rfl
 |n+1,e=>by
  show qI g n+g n=qI h n+h n;rw[rE fun j hj=>e j (by omega),e n (by simp)]
theorem zx (c:Int)(t:Nat):∀n,qI (fun j=>if j=t then c else 0) n=if t<n then c else 0
 |0=>rfl
 |n+1=>by
  show qI _ n+(if n=t then c else 0)=_;rw[zx c t n];by_cases h:t<n
  ·rw[if_pos h,if_neg (by omega),if_pos (by omega)];omega
  ·by_cases h':n=t
   ·rw[if_neg h,if_pos h',if_pos (by omega)];omega
   ·rw[if_neg h,if_neg h',if_neg (by omega)];omega
theorem Uv:∀n,qI (fun _=>0) n=0
 |0=>rfl
 |n+1=>by show qI _ n+0=0;rw[Uv n];rfl
theorem vq {g A}(h:∀j,-A≤g j∧g j≤A):∀n:Nat,-(n*A)≤qI g n∧qI g n≤n*A
 |0=>by simp[qI]
 |n+1=>by
  have h1:=h n;have h2:=vq h n;have e:((n+1:Nat):Int)*A=(n:Int)*A+A:=by
   grind
  show-_≤qI g n+g n∧qI g n+g n≤_;omega
theorem M7 {α}(g:Nat→α→Int) n:∀l:List α,qI (fun j=>zP (g j) l) n=zP (fun p=>qI (fun j=>g j p) n) l
 |[]=>Uv n
 |p::l=>by
  show qI (fun j=>g j p+zP (g j) l) n=qI (fun j=>g j p) n+zP _ l;rw[Da,M7 g n l]
theorem jQ {α:Type}{l:List α}{i d}(h:i<l.length):l.getD i d∈l:=by
 simp_all
theorem jW {α:Type}(l:List α) i d (h:i<l.length):l.take i++[l.getD i d]=l.take (i+1):=by
 simp_all
theorem fj {α:Type}(l:List α)(i j:Nat)(a d:α):(l.set i a).getD j d=if i=j∧i<l.length then a else l.getD j d:=by
 rw[List.getD_eq_getElem?_getD,List.getD_eq_getElem?_getD,List.getElem?_set];by_cases h:i=j
 ·subst h;by_cases h':i<l.length<;>simp[h']
 ·simp[h]
theorem Db {α:Type}{l m:List α} d (hl:l.length=m.length)(h:∀i,i<l.length→l.getD i d=m.getD i d):l=m:=by
 apply List.ext_getElem hl;simp_all
theorem vIe m (hm:m≤62) x:yJ .i64 x (2^m-1)=x%2^m:=by
 unfold yJ sn;have hp:(2:Int)^m=((2^m:Nat):Int):=by rfl
 have hle:2^m≤2^62:=Nat.pow_le_pow_right (by omega) hm;have lh:0<2^m:=by grind
 have e1:(BitVec.ofInt IntKind.i64.bits x&&&BitVec.ofInt IntKind.i64.bits (2^m-1)).toNat=(x%2^m).toNat:=by
  rw[BitVec.toNat_and,BitVec.toNat_ofInt,BitVec.toNat_ofInt];have e2:((2:Int)^m-1)%((2^IntKind.i64.bits:Nat):Int)=((2^m-1:Nat):Int):=by
   rw[hp];have:((2^m:Nat):Int)-1=((2^m-1:Nat):Int):=by omega
   rw[this];apply Int.emod_eq_of_lt (by omega);show((2^m-1:Nat):Int)<((2^64:Nat):Int);omega
  rw[e2,aq,Nat.and_two_pow_sub_one_eq_mod];have hx:0≤x%((2^IntKind.i64.bits:Nat):Int):=by omega
  have e3:x%2^m=(x%((2^IntKind.i64.bits:Nat):Int))%((2^m:Nat):Int):=by
   rw[hp,Int.emod_emod_of_dvd];show((2^m:Nat):Int)∣((2^64:Nat):Int);exact Int.natCast_dvd_natCast.2 (Nat.pow_dvd_pow 2 (by omega))
  grind
 rw[e1];have h0:0≤x%2^m:=by omega
 rw[Int.toNat_of_nonneg h0];exact zO (by omega) (by omega)
end Go.Ab
namespace Go.Ab.Gi
open Go.Ab
def n9 (s c:Int):Int:=wD .u64 (shl .u64 s 8) (IntKind.wrap .u64 c)
def vr (b:AC):Int:=zA (b.foldl n9 0)
def kq:Nat→AC→AC
 |0,_=>[]
 |m+1,b=>vr (b.take 8)::kq m (b.drop 8)
theorem Uw:∀m b,(kq m b).length=m
 |0,_=>rfl
 |m+1,b=>by simp[kq,Uw m]
theorem vB9:∀m b,kq (m+1) b=kq m b++[vr ((b.drop (8*m)).take 8)]
 |0,b=>by rfl
 |m+1,b=>by
  have h:=vB9 m (b.drop 8);rw[show kq (m+1+1) b=vr (b.take 8)::kq (m+1) (b.drop 8) from rfl,h];rw[List.drop_drop,show 8+8*m=8*(m+1) by omega];rfl
theorem yKo {x:AC}{i}(h:i<x.length) s:(x.take (i+1)).foldl n9 s=n9 ((x.take i).foldl n9 s) (x.getD i 0):=by
 rw[←jW x i 0 h,List.foldl_append];rfl
theorem vOs {k}(hk:9≤k) s0 x r0 (hx:x.length=8):Dc k k s0 0 x 8 0 r0=some (s0,x.foldl n9 0,r0):=by
 obtain ⟨s, h1, h2⟩ := yS (L := fun n i (s : Int) => Dc k n s0 s x 8 i r0) (N := 8) (fun s => (s0, s, r0)) (fun i s => s = (x.take i).foldl n9 0) (fun n s _ => rfl) (fun n i s hi hs=>by
  refine⟨n9 s (x.getD i 0),?_,by rw[yKo (by omega),hs]⟩;show M8 k (Dc k n) s0 s x 8 (i:Int) r0=_;unfold M8;rw[aa (by grind),aj,wT (by omega) (by omega),aj,qE (N:=8) hi (by omega),aq];rfl) (n:=k) (s:=0) (by omega) rfl
 grind
theorem yE6 {k}(hk:9≤k):∀m n b r,b.length=8*m→m<n→r.length+m≤17592186044416→Dd k n b r=some (r++kq m b)
 |0,n,b,r,hb,hn,_=>by
  obtain⟨n,rfl⟩:∃x,n=x+1:=⟨n-1,by omega⟩;show De k (Dd k n) b r=_;unfold De;rw[ab (by omega),an];simp[kq]
 |m+1,n,b,r,hb,hn,hr=>by
  obtain⟨n,rfl⟩:∃x,n=x+1:=⟨n-1,by omega⟩;show De k (Dd k n) b r=_;unfold De;have ht:(b.take 8).length=8:=by grind
  have e8:((b.take 8).length:Int)=8:=by omega
  rw[aa (by grind),aj,aa (by grind),aj,e8,vOs hk _ _ _ ht,ae];dsimp only;rw[qH (by omega) (by omega),aj,aa (by grind),aj];rw[yE6 hk m n _ _ (by grind) (by omega) (by grind)];rw[List.append_assoc];rfl
theorem yJb (n:Nat):Int.tmod (n:Int) 8=((n%8:Nat):Int):=rfl
def kS (b:AC):AC×Int:=if b.length%8=0 then(kq (b.length/8) b,0) else([],2)
theorem yU8 {k:Nat}{b:AC}(hk:9≤k)(hb:b.length<8*k)(bF:b.length≤140737488355328):rF k b=some (kS b):=by
 unfold rF kS;rw[yJb];by_cases h:b.length%8=0
 ·rw[if_pos h,aa (by omega),yE6 hk (b.length/8) k b [] (by omega) (by omega) (by simp;omega)];rfl
 ·rw[if_neg h,ab (by omega)];rfl
theorem yT2 {k}(hk:9≤k) x (hx:x.length=8):M9 k x=some (vr x):=by
 unfold M9;obtain ⟨s, h1, h2⟩ := yS (L := fun n i (s : Int) => Ux k n x s i) (N := 8) (fun s => s) (fun i s => s = (x.take i).foldl n9 0) (fun n s _ => rfl) (fun n i s hi hs=>by
  refine⟨n9 s (x.getD i 0),?_,by rw[yKo (by omega),hs]⟩;show Uy k (Ux k n) x s (i:Int)=_;unfold Uy;rw[aa (by grind),aj,wT (by omega) (by omega),aj,qE (N:=8) hi (by omega),aq];rfl) (n:=k) (s:=0) (by omega) rfl
 rw[List.take_of_length_le (by omega)] at h2;subst h2;rw[h1];rfl
theorem yP3 {k}(hk:9≤k) b M (hM:b.length=8*M)(hb:M≤17592186044416):∀m n j,j+m=M→m<n→Iw k n b ((8*j:Nat):Int) (kq j b)=some (kq M b)
 |0,n,j,hj,hn=>by
  obtain⟨n,rfl⟩:∃x,n=x+1:=⟨n-1,by omega⟩;show Ix k (Iw k n) b _ _=_;unfold Ix;simp_all
 |m+1,n,j,hj,hn=>by
  obtain⟨n,rfl⟩:∃x,n=x+1:=⟨n-1,by omega⟩;show Ix k (Iw k n) b _ _=_;unfold Ix;have ew:zA (((8*j:Nat):Int)+8)=((8*(j+1):Nat):Int):=by rw[zO (by omega) (by omega)];omega
  rw[ew,aa (by grind),aj,aa (by grind),aa (by grind),
   aa (by grind),aq,aq,show 8*(j+1)-8*j=8 by omega]
  have hl:(qR b (8*j) 8).length=8:=by simp[qR];omega
  rw[show(true&&true&&true)=true from rfl,aj,yT2 hk _ hl,ae];rw[qH (by rw[Uw];omega) (by rw[Uw];omega),aj];rw[show kq j b++[vr (qR b (8*j) 8)]=kq (j+1) b from(vB9 j b).symm];exact yP3 hk b M hM hb m n (j+1) (by omega) (by omega)
theorem vHz {k:Nat}{b:AC}(hk:9≤k)(hb:b.length<8*k)(bF:b.length≤140737488355328):Uz k b=some (kS b):=by
 unfold Uz kS;rw[yJb];by_cases h:b.length%8=0
 ·rw[if_pos h,aa (by omega)];have:=yP3 hk b (b.length/8) (by omega) (by omega) (b.length/8) k 0 (by omega) (by omega);show(Iw k k b ((8*0:Nat):Int) (kq 0 b)).bind _=_;rw[this];rfl
 ·rw[if_neg h,ab (by omega)];rfl
def yN0:AC:=[(-1),6,1,2,2,2,1,1,2,0,2,2,2,0,0,0,1,5,4,1,1,1,1,1]
def vR (x:Int):Int:=if 0≤x∧x<24 then yN0.getD x.toNat 0 else-1
theorem UA (k:Nat)(x:Int):Df k x=some (vR x):=by
 unfold Df vR;by_cases h:x<0
 ·rw[aa h,if_neg (by omega)];rfl
 ·rw[ab h,an];by_cases h2:x≥24
  ·rw[aa h2,if_neg (by omega)];rfl
  ·rw[ab h2,an,wT (by omega) (by omega),aj,if_pos (by omega)];rfl
theorem UB (k:Nat)(x:Int):tv k x=some (vR x):=by
 by_cases h:0≤x∧x<24
 ·obtain⟨n,rfl⟩:∃n:Nat,x=n:=⟨x.toNat,by omega⟩;have hn:n<24:=by omega
  have:∀n:Nat,n<24→tv 0 (n:Int)=some (vR (n:Int)):=by decide
  exact this n hn
 ·have e:vR x= -1:=by unfold vR;rw[if_neg h]
  rw[e];unfold tv;have ne:∀c:Int,0≤c→c<24→decide (x=c)=false:=fun c h1 h2=>ab (by omega)
  rw[ne 9 (by omega) (by omega),ne 13 (by omega) (by omega),ne 14 (by omega) (by omega),ne 15 (by omega) (by omega),ne 2 (by omega) (by omega),ne 6 (by omega) (by omega),ne 7 (by omega) (by omega),ne 16 (by omega) (by omega),
   ne 19 (by omega) (by omega),ne 20 (by omega) (by omega),ne 21 (by omega) (by omega),ne 22 (by omega) (by omega),ne 23 (by omega) (by omega),ne 3 (by omega) (by omega),ne 4 (by omega) (by omega),ne 5 (by omega) (by omega),ne 8 (by omega) (by omega),
   ne 10 (by omega) (by omega),ne 11 (by omega) (by omega),ne 12 (by omega) (by omega),ne 18 (by omega) (by omega),ne 17 (by omega) (by omega),ne 1 (by omega) (by omega)]
  rfl
def Dg (b:AC):zC×Int:=
 if b=[] then((0,0,0,0,0,0,0),2)
 else if(kS (b.drop 1)).2≠0∨((kS (b.drop 1)).1.length:Int)≠vR (zA (b.getD 0 0)) then((0,0,0,0,0,0,0),2)
 else((zA (b.getD 0 0),(kS (b.drop 1)).1.getD 0 0,(kS (b.drop 1)).1.getD 1 0,(kS (b.drop 1)).1.getD 2 0,(kS (b.drop 1)).1.getD 3 0,(kS (b.drop 1)).1.getD 4 0,(kS (b.drop 1)).1.getD 5 0),0)
theorem UC (l:AC)(i:Nat):(bif Nat.blt i l.length then l.getD i 0 else 0)=l.getD i 0:=by
 by_cases h:i<l.length
 ·rw[show Nat.blt i l.length=true by simp[Nat.blt_eq,h]];rfl
 ·rw[show Nat.blt i l.length=false by
   cases e:Nat.blt i l.length with
   |false=>rfl
   |true=>rw[Nat.blt_eq] at e;omega]
  rw[List.getD_eq_getElem?_getD,List.getElem?_eq_none (by omega)];rfl
theorem vJ0 {k:Nat}{b:AC}(hk:9≤k)(hb:b.length≤8*k)(bF:b.length≤140737488355328):Dh k b=some (Dg b):=by
 unfold Dh Dg;cases b with
 |nil=>rfl
 |cons c l=>
  rw[if_neg (by simp)];have e0:((c::l).length:Int)=(l.length:Int)+1:=by simp
  rw[ab (by omega),an,aa (show(1:Int)≤((c::l).length:Int) by omega),aj,yU8 hk (by simp at hb⊢;omega) (by simp at bF⊢;omega),ae];by_cases h:(kS (List.drop 1 (c::l))).2=0
  ·rw[aa h,wT (by omega) (by simp),UB];simp only[aE,an,aj,ae];by_cases h2:((kS (List.drop 1 (c::l))).1.length:Int)=vR (zA ((c::l).getD 0 0))
   ·rw[aa h2,if_neg (fun hh=>hh.elim (fun e=>e h) fun e=>e h2)];simp only[aE,an,UC]
   ·rw[ab h2,if_pos (.inr h2)];rfl
  ·rw[ab h,if_pos (.inl h)];rfl
theorem Iy (x:Int):vR x≤6:=by
 unfold vR;split
 ·rename_i h;obtain⟨n,rfl⟩:∃n:Nat,x=n:=⟨x.toNat,by omega⟩;have:∀n:Nat,n<24→yN0.getD n 0≤6:=by decide
  exact this n (by omega)
 ·omega
abbrev yR9:Type:=Int×Int×AC×Int×Int
abbrev abV:Type:=Int×List (Int×Int)×Int×Int×Int
abbrev Dm:Type:=Int×List (Int×Int×Int)×EQ×AC×EQ×AC×EQ×List (Int×Int×Int×Int×Int×Int×Int)×AC×Int×Bool
abbrev vt:Type:=Int×List (Int×Int)×Int×Int×Int×Int×List (Int×Int×Int)×EQ×AC×EQ×AC×EQ×List (Int×Int×Int×Int×Int×Int×Int)×AC×Int×Bool×Int×Bool
abbrev abW:Type:=Int×Int×Bool×Bool
def d0:yR9:=(0,0,[],0,0)
abbrev vu (ro:Int)(x:AC)(sx:Int)(y:AC)(sy cA cK op:Int):wC:=(ro,x,sx,y,sy,cA,cK,false,false,op)
section
variable {k:Nat} {ro sx sy cA cK op:Int} {x y b:AC}
theorem vX0 (h:(b.length:Int)≤zA (ro-(x.length:Int)))(hr:x.length+b.length≤1000000):tw k (vu ro x sx y sy cA cK op) 0 b=some (0,vu ro (x++b) sx y sy cA cK (zA (op+1))):=by
 show(bif decide ((b.length:Int)>zA (ro-(x.length:Int))) then _ else(bif zN (x.length+b.length) 1 then _ else none))=_;rw[ab (by omega),an,qH (by omega) (by omega)];rfl
theorem UD (h:(b.length:Int)≤zA (ro-(y.length:Int)))(hr:y.length+b.length≤1000000):tw k (vu ro x sx y sy cA cK op) 1 b=some (0,vu ro x sx (y++b) sy cA cK (zA (op+1))):=by
 show(bif decide ((b.length:Int)>zA (ro-(y.length:Int))) then _ else(bif zN (y.length+b.length) 1 then _ else none))=_;rw[ab (by omega),an,qH (by omega) (by omega)];rfl
theorem vNx:UE k (vu ro x sx y sy cA cK op) 0=some (0,vu ro [] 0 y sy cA cK (zA (op+1))):=rfl
end
def vD (n:Int)(i:Nat):Int:=IntKind.wrap .u8 (shr .i64 n (8*(i:Int)))
def yL (n:Int):AC:=[vD n 7,vD n 6,vD n 5,vD n 4,vD n 3,vD n 2,vD n 1,vD n 0]
def yT (l:AC):AC:=l.flatMap yL
theorem jg:∀l,(yT l).length=8*l.length
 |[]=>rfl
 |n::l=>by
  have:=jg l;simp[yT] at this⊢;rw[this];simp[yL];omega
theorem vXl {k n} v (i:Nat)(hi:i≤7) aN de bz r (hr:r.length≤1000000000):
  vv k (n+1) v (i:Int) aN de bz r=vv k n v ((i:Int)-1) aN de bz (r++[vD v i]):=by
 show Nb k (vv k n) v (i:Int) aN de bz r=_;unfold Nb;have e8:zA (8*(i:Int))=8*(i:Int):=zO (by omega) (by omega);rw[aa (by simp),aj,e8,ab (by omega),cp,aj,qH (by omega) (by omega),aj,zO (by omega) (by omega)];rfl
theorem vEp {k}(hk:9≤k) v aN de bz r (hr:r.length≤100000000):
  vv k k v 7 aN de bz r=some (aN,de,bz,r++yL v):=by
 have gen:∀m,vv k (m+9) v 7 aN de bz r=some (aN,de,bz,r++yL v):=fun m=>by
  have h:=fun n i hi r' qm=>vXl (k:=k) (n:=n) v i hi aN de bz r' qm
  have h7:=h (m+8) 7 (by omega) r (by omega);have h6:=h (m+7) 6 (by omega) (r++[vD v 7]) (by grind);have h5:=h (m+6) 5 (by omega) ((r++[vD v 7])++[vD v 6]) (by grind);have h4:=h (m+5) 4 (by omega) (((r++[vD v 7])++[vD v 6])++[vD v 5]) (by grind);have h3:=h (m+4) 3 (by omega) ((((r++[vD v 7])++[vD v 6])++[vD v 5])++[vD v 4]) (by grind);have h2:=h (m+3) 2 (by omega) (((((r++[vD v 7])++[vD v 6])++[vD v 5])++[vD v 4])++[vD v 3]) (by grind);have h1:=h (m+2) 1 (by omega) ((((((r++[vD v 7])++[vD v 6])++[vD v 5])++[vD v 4])++[vD v 3])++[vD v 2]) (by simp;omega);have h0:=h (m+1) 0 (by omega) (((((((r++[vD v 7])++[vD v 6])++[vD v 5])++[vD v 4])++[vD v 3])++[vD v 2])++[vD v 1]) (by simp;omega);refine(h7.trans (h6.trans (h5.trans (h4.trans (h3.trans (h2.trans (h1.trans (h0.trans ?_))))))));show some (aN,de,bz,_)=_;simp only[List.append_assoc,List.cons_append,List.nil_append];rfl
 obtain⟨m,rfl⟩:∃m,k=m+9:=⟨k-9,by omega⟩;exact gen m
theorem yDn {k}(hk:9≤k) l (hl:l.length≤1000000):∀(m n i:Nat),i+m=l.length→m<n→zy k n l (l.length:Int) (i:Int) (yT (l.take i))=some (yT l)
 |0,n,i,hi,hn=>by
  obtain⟨n,rfl⟩:∃x,n=x+1:=⟨n-1,by omega⟩;show Dn k (zy k n) l _ _ _=_;unfold Dn;simp_all
 |m+1,n,i,hi,hn=>by
  obtain⟨n,rfl⟩:∃x,n=x+1:=⟨n-1,by omega⟩;show Dn k (zy k n) l _ _ _=_;unfold Dn;have bj:i<l.length:=by omega
  rw[aa (by grind),aj,wT (by omega) (by omega),aj,aq,
   vEp hk _ _ _ _ _ (by rw[jg,List.length_take];omega),ae,qE (N:=l.length) bj (by omega)]
  rw[show yT (l.take i)++yL (l.getD i 0)=yT (l.take (i+1)) by
   rw[←jW l i 0 bj];simp[yT]]
  exact yDn hk l hl m n (i+1) (by omega) (by omega)
theorem UF {k}(hk:9≤k) l (hl:l.length≤1000000)(oQ:l.length<k):vw k l=some (yT l):=by
 unfold vw;have h8:zA (8*(l.length:Int))=((8*l.length:Nat):Int):=by rw[zO (by omega) (by omega)];omega
 rw[h8];have hm:o0 0 ((8*l.length:Nat):Int) 1=true:=by
  grind
 rw[hm,aj];have:=yDn hk l hl l.length k 0 (by omega) oQ;show(zy k k l (l.length:Int) ((0:Nat):Int) (yT (l.take 0))).bind _=_;simp_all
def qV (l:AC):AC:=yL (l.length:Int)++yT l
theorem vY1 {k}(hk:9≤k) l (hl:l.length≤1000000)(oQ:l.length<k):Nc k l=some (qV l):=by
 unfold Nc;rw[UF hk [(l.length:Int)] (by simp) (by grind),ae,UF hk l hl oQ,ae];rw[qH (by rw[jg,jg];grind) (by rw[jg,jg];grind)];rfl
def jI (b:AC):AC:=[IntKind.wrap .u8 (shr .i64 (b.length:Int) 8),IntKind.wrap .u8 (b.length:Int)]++b
theorem vF3 k b:Iz k b=some (if b.length≤60000 then(jI b,true) else([],false)):=by
 unfold Iz;by_cases h:b.length≤60000
 ·rw[ab (by omega),an,qH (by omega) (by omega),if_pos h];rfl
 grind
theorem yXk (x:Nat)(hx:x<18446744073709551616):(BitVec.ofInt 64 (x:Int)).toNat=x:=by
 rw[BitVec.ofInt_natCast,BitVec.toNat_ofNat];exact Nat.mod_eq_of_lt hx
theorem ySo (a c:Nat)(hc:c<256)(ha:a*256+c<18446744073709551616):(BitVec.ofInt 64 ((a*256:Nat):Int)|||BitVec.ofInt 64 (c:Int)).toNat=a*256+c:=by
 rw[BitVec.toNat_or,yXk _ (by omega),yXk _ (by omega)];have:=Nat.two_pow_add_eq_or_of_lt (b:=c) (i:=8) hc a;rw[show(2:Nat)^8*a=a*256 by omega] at this;exact this.symm
theorem Dp (x:Int):IntKind.wrap .u8 x=x%256:=by
 unfold IntKind.wrap;simp[IntKind.bits,IntKind.signed]
theorem Dq (x:Int):IntKind.wrap .u64 x=x%18446744073709551616:=by
 unfold IntKind.wrap;simp[IntKind.bits,IntKind.signed]
theorem vOk {s c:Int}(hs:0≤s)(hc:0≤c∧c<256):n9 s c=(s*256+c)%18446744073709551616:=by
 unfold n9;have e1:shl .u64 s 8=(s*256)%18446744073709551616:=Dq _;rw[e1,Dq c];obtain⟨a,ha⟩:∃a:Nat,s%72057594037927936=a:=⟨(s%72057594037927936).toNat,by omega⟩;obtain⟨d,rfl⟩:∃d:Nat,c=d:=⟨c.toNat,by omega⟩;have e2:(s*256)%18446744073709551616=((a*256:Nat):Int):=by omega
 have e3:(d:Int)%18446744073709551616=(d:Int):=by omega
 rw[e2,e3];show IntKind.wrap .u64 (((BitVec.ofInt 64 ((a*256:Nat):Int)|||BitVec.ofInt 64 (d:Int)).toNat:Nat):Int)=_;rw[ySo a d (by omega) (by omega),Dq];omega
theorem vB3 (n:Int)(i:Nat)(hi:i≤7):vD n i=(n/2^(8*i))%256:=by
 unfold vD;rw[Dp]
 congr 1
 show n.fdiv (2^(min (8*(i:Int)).toNat 64))=_;rw[show min (8*(i:Int)).toNat 64=8*i by omega];exact Int.fdiv_eq_ediv_of_nonneg _ (Int.le_of_lt (Int.pow_pos (by decide)))
theorem yQr {n:Int}(h1:-9223372036854775808≤n)(h2:n<9223372036854775808):vr (yL n)=n:=by
 have o:=fun i (hi:i≤7)=>vB3 n i hi
 have b:∀i,i≤7→0≤vD n i∧vD n i<256:=fun i hi=>by rw[o i hi];omega
 have p:∀s:Int,0≤s→∀i,i≤7→n9 s (vD n i)=(s*256+vD n i)%18446744073709551616:=fun s hs i hi=>vOk hs (b i hi)
 unfold vr yL;simp only[List.foldl_cons,List.foldl_nil];rw[p 0 (by omega) 7 (by omega),p _ (by omega) 6 (by omega),p _ (by omega) 5 (by omega),p _ (by omega) 4 (by omega),p _ (by omega) 3 (by omega),p _ (by omega) 2 (by omega),p _ (by omega) 1 (by omega),p _ (by omega) 0 (by omega)];rw[o 7 (by omega),o 6 (by omega),o 5 (by omega),o 4 (by omega),o 3 (by omega),o 2 (by omega),o 1 (by omega),o 0 (by omega)];simp only[Nat.reduceMul,Int.reducePow];unfold zA IntKind.wrap;simp only[IntKind.bits,IntKind.signed,Bool.true_and];simp;split<;>omega
def qA (l:EQ):AC:=l.flatMap qV
theorem jX l:(qV l).length=8*(l.length+1):=by
 simp[qV,jg];show 8+_=_;omega
theorem yO8 {l:EQ}{i}(h:i<l.length):qA (l.take i)++qV (l.getD i [])=qA (l.take (i+1)):=by
 rw[←jW l i [] h];simp[qA]
structure wQ (l:EQ):Prop where
 n:l.length≤900
 r:∀x∈l,x.length≤900
theorem IA {l}(h:∀x∈l,x.length≤900):(qA l).length≤8000*l.length:=by
 induction l with
 |nil=>simp[qA]
 |cons x l ih=>
  have h1:=ih (by grind);have h2:=h x (by simp);simp[qA,jX] at h1⊢;omega
theorem vSy {k}(hk:1000≤k){l}(h:wQ l):IB k l=some (qA l):=by
 have hn:=h.n;unfold IB;obtain ⟨s, h1, h2⟩ := yS (L := fun n i (s : AC) => Dr k n l (l.length : Int) i s) (N := l.length) (fun s => s) (fun i s => s = qA (l.take i)) (fun n s _=>by
  show Ds k (Dr k n) l _ _ s=_;unfold Ds;simp) (fun n i s hi hs=>by
  refine⟨s++qV (l.getD i []),?_,by rw[hs,yO8 hi]⟩;show Ds k (Dr k n) l _ (i:Int) s=_;unfold Ds;have hr:=h.r _ (jQ (d:=[]) hi);have sV:s.length≤8000*1000:=by
   have:=IA (l:=l.take i) fun x hx=>h.r x (by grind)
   grind
  rw[aa (by grind),aj,wT (by omega) (by omega),aj,aq,vY1 (by omega) _ (by omega) (by omega),ae,
   qH (by rw[jX];omega) (by rw[jX];omega),aj,qE (N:=l.length) hi (by omega)]) (n:=k) (s:=[]) (by omega) rfl
 simp_all
def vZ (a:Int×Int×Int):AC:=[a.1,a.2.1,a.2.2]
def vI (p:Int×Int×Int×Int×Int×Int×Int):AC:=[p.1,p.2.1,p.2.2.1,p.2.2.2.1,p.2.2.2.2.1,p.2.2.2.2.2.1,p.2.2.2.2.2.2]
def vV (s:Dm):EQ:=
 (((((([[s.1,s.2.2.2.2.2.2.2.2.2.1,bif s.2.2.2.2.2.2.2.2.2.2 then 1 else 0,(s.2.1.length:Int),(s.2.2.1.length:Int),(s.2.2.2.1.length:Int),(s.2.2.2.2.1.length:Int),(s.2.2.2.2.2.2.1.length:Int),(s.2.2.2.2.2.2.2.1.length:Int)]]++
  s.2.1.map vZ)++s.2.2.1)++[s.2.2.2.1])++s.2.2.2.2.1)++[s.2.2.2.2.2.1])++s.2.2.2.2.2.2.1)++s.2.2.2.2.2.2.2.1.map vI++[s.2.2.2.2.2.2.2.2.1]
theorem Nd {α β:Type}(f:α→β) d {l:List α}{i}(h:i<l.length):(l.take i).map f++[f (l.getD i d)]=(l.take (i+1)).map f:=by
 rw[←jW l i d h];simp
theorem vL3 {k}{l:List (Int×Int×Int)}(hl:l.length≤900)(hk:1000≤k)(s:Dm)(b) r (hr:r.length≤1000000):zz k k l (l.length:Int) 0 s b r=some (s,b,r++l.map vZ):=by
 obtain ⟨t, h1, h2⟩ := yS (L := fun n i (t : EQ) => zz k n l (l.length : Int) i s b t) (N := l.length) (fun t => (s, b, t)) (fun i t => t = r ++ (l.take i).map vZ) (fun n t _=>by
  show Dt k (zz k n) l _ _ s b t=_;unfold Dt;simp) (fun n i t hi ht=>by
  refine⟨t++[vZ (l.getD i (0,0,0))],?_,by rw[ht,List.append_assoc,Nd vZ (0,0,0) hi]⟩;show Dt k (zz k n) l _ (i:Int) s b t=_;unfold Dt;have:t.length≤1001000:=by grind
  rw[aa (by grind),aj,wT (by omega) (by omega),aj,qH (by omega) (by omega),aj,qE (N:=l.length) hi (by omega)];rfl) (n:=k) (s:=r) (by omega) (by simp)
 simp_all
theorem vW2 {k}{l:List (Int×Int×Int×Int×Int×Int×Int)}(hl:l.length≤900)(hk:1000≤k)(s:Dm) r (hr:r.length≤1000000):z9 k k l (l.length:Int) 0 s r=some (s,r++l.map vI):=by
 obtain ⟨t, h1, h2⟩ := yS (L := fun n i (t : EQ) => z9 k n l (l.length : Int) i s t) (N := l.length) (fun t => (s, t)) (fun i t => t = r ++ (l.take i).map vI) (fun n t _=>by
  show Du k (z9 k n) l _ _ s t=_;unfold Du;simp) (fun n i t hi ht=>by
  refine⟨t++[vI (l.getD i (0,0,0,0,0,0,0))],?_,by rw[ht,List.append_assoc,Nd vI (0,0,0,0,0,0,0) hi]⟩;show Du k (z9 k n) l _ (i:Int) s t=_;unfold Du;have:t.length≤1001000:=by grind
  rw[aa (by grind),aj,wT (by omega) (by omega),aj,qH (by omega) (by omega),aj,qE (N:=l.length) hi (by omega)];rfl) (n:=k) (s:=r) (by omega) (by simp)
 simp_all
theorem yLq {k}(hk:1000≤k){s}(h:wQ (vV s)):mo k s=some (qA (vV s)):=by
 have hn:=h.n;simp only[vV,List.length_append,List.length_map] at hn;unfold mo;rw[show Nf k s.2.2.2.2.2.2.2.2.2.2=some (bif s.2.2.2.2.2.2.2.2.2.2 then 1 else 0) by unfold Nf;grind,ae];rw[vL3 (by omega) hk _ _ _ (by simp),ae];dsimp only;rw[qH (by grind) (by grind),aj,qH (by grind) (by grind),aj,qH (by simp;omega) (by grind),aj,qH (by simp;omega) (by simp;omega),aj,
  qH (by simp;omega) (by simp;omega),aj,vW2 (by omega) hk _ _ (by simp;omega),ae]
 dsimp only;rw[qH (by simp;omega) (by simp;omega),aj];show(IB k (vV s)).bind (fun x1=>some x1)=_;rw[vSy hk h];rfl
structure UG (D:wC):Prop where
 abJ:D.2.2.2.2.2.2.2.1=false
 down:D.2.2.2.2.2.2.2.2.1=false
 room:0≤D.1∧D.1≤200000
 x:(D.2.1.length:Int)≤D.1
 y:(D.2.2.2.1.length:Int)≤D.1
def wW (D:wC)(i:Int):AC:=if i=0 then D.2.1 else D.2.2.2.1
theorem UG.as {D}(h:UG D):∃ro x sx y sy cA cK op,D=vu ro x sx y sy cA cK op∧0≤ro∧ro≤200000∧(x.length:Int)≤ro∧(y.length:Int)≤ro:=by
 obtain⟨ro,x,sx,y,sy,cA,cK,ar,dn,op⟩:=D;obtain⟨h1,h2,h3,h4,h5⟩:=h;subst h1;subst h2;grind
structure abX (L:iH):Prop where
 side:L.1=0∨L.1=1
 gen:1≤L.2.1∧L.2.1≤4611686018427387904
 rows:0≤L.2.2.1∧L.2.2.1≤1000000
 stale:L.2.2.2=false
theorem Dv b:(jI b).length=b.length+2:=by rfl
def kT (l:AC):Prop:=∀x∈l,-9223372036854775808≤x∧x<9223372036854775808
theorem yRv:∀{l},kT l→kq l.length (yT l)=l
 |[],_=>rfl
 |n::l,h=>by
  have h1:=h n (by simp);have e:yT (n::l)=yL n++yT l:=by rfl
  show vr ((yL n++yT l).take 8)::kq l.length ((yL n++yT l).drop 8)=_;have t:(yL n++yT l).take 8=yL n:=rfl;have d:(yL n++yT l).drop 8=yT l:=rfl;rw[t,d,yQr h1.1 h1.2,yRv fun x hx=>h x (by grind)]
theorem UH {l}(h:kT l):kS (yT l)=(l,0):=by
 unfold kS;have:=jg l;rw[if_pos (by omega),show(yT l).length/8=l.length by omega,yRv h]
theorem yEl {k}(hk:9≤k){l}(hl:l.length<k)(hm:l.length≤1000000)(h:kT l):rF k (yT l)=some (l,0):=by
 have:=jg l;rw[yU8 hk (by omega) (by omega),UH h]
theorem UI {k}(hk:9≤k){n}(h:-9223372036854775808≤n∧n<9223372036854775808):rF k (yL n)=some ([n],0):=by
 have e:yL n=yT [n]:=by rfl
 rw[e];exact yEl hk (by grind) (by simp) fun x hx=>by simp_all
theorem vJq {k}(hk:9≤k){l}(hl:l.length<k)(hm:l.length≤100000)(h:kT l) b (hb:b.length≤1000000):Ng k (qV l++b)=some (l,b,true):=by
 have rG:=jg l;have hlen:(qV l++b).length=8+8*l.length+b.length:=by
  rw[List.length_append,qV,List.length_append,rG];rfl
 have t:(qV l++b).take 8=yL (l.length:Int):=rfl;have d:(qV l++b).drop 8=yT l++b:=rfl;unfold Ng;rw[ab (by omega),an,aa (by omega),aj,t,UI hk (by omega),ae,d];have oc:(yT l++b).length=8*l.length+b.length:=by simp_all
 have w1:zA (Int.tdiv ((yT l++b).length:Int) 8)=((l.length+b.length/8:Nat):Int):=by
  rw[oc];have:Int.tdiv ((8*l.length+b.length:Nat):Int) 8=(((8*l.length+b.length)/8:Nat):Int):=rfl;rw[this,zO (by omega) (by omega)];omega
 have w2:zA (8*(l.length:Int))=((8*l.length:Nat):Int):=by rw[zO (by omega) (by omega)];omega
 have bd:zB 0 [(l.length:Int)].length=true:=rfl;simp only[List.getD_cons_zero];rw[ab (by simp),w1,w2,ab (by grind),aa (by grind),
  aa (by grind),aq,show List.take (8*l.length) (yT l++b)=yT l from by grind,show List.drop (8*l.length) (yT l++b)=b from by grind]
 rw[yEl hk hl (by omega) h];rfl
def Au (b:AC):Int:=wD .i64 (shl .i64 (zA (b.getD 0 0)) 8) (zA (b.getD 1 0))
def Cut (b:AC):Prop:=b.length<2∨Au b>60000∨Au b>(b.length:Int)-2
def eM (l:EQ):AC:=l.flatMap jI
theorem UJ {r}(hr:r.length≤60000){b}(h0:b.getD 0 0=(jI r).getD 0 0)(h1:b.getD 1 0=(jI r).getD 1 0):Au b=(r.length:Int):=by
 unfold Au;rw[h0,h1];have e0:(jI r).getD 0 0=((r.length/256:Nat):Int):=by
  show IntKind.wrap .u8 (shr .i64 (r.length:Int) 8)=_;rw[Dp];have:shr .i64 (r.length:Int) 8=((r.length/256:Nat):Int):=by
   show(r.length:Int).fdiv (2^8)=_;grind
  omega
 have e1:(jI r).getD 1 0=((r.length%256:Nat):Int):=by
  rfl
 rw[e0,e1,zO (by omega) (by omega),zO (by omega) (by omega)];have e2:shl .i64 ((r.length/256:Nat):Int) 8=((r.length/256*256:Nat):Int):=by
  show zA (((r.length/256:Nat):Int)*2^8)=_;exact zO (by omega) (by omega)
 rw[e2];show IntKind.wrap .i64 (((BitVec.ofInt 64 ((r.length/256*256:Nat):Int)|||BitVec.ofInt 64 ((r.length%256:Nat):Int)).toNat:Nat):Int)=_;rw[ySo _ _ (by omega) (by omega)];have:=zO (x:=((r.length/256*256+r.length%256:Nat):Int)) (by omega) (by omega);grind
theorem UK:Cut []:=.inl (by decide)
theorem yEq {k:Nat}{t:AC}(ht:Cut t)(qs:t.length≤1000000):∀(l:EQ) (n:Nat) (r:EQ),(∀x∈l,x.length≤60000)→l.length<n→(eM l).length≤1000000→r.length+l.length≤1000000→Dw k n (eM l++t) r=some (t,r++l)
 |[],n,r,_,hn,_,_=>by
  obtain⟨n,rfl⟩:∃m,n=m+1:=⟨n-1,by omega⟩;rw[List.append_nil];show Dx k (Dw k n) t r=_;unfold Dx;by_cases h2:t.length<2
  ·rw[ab (by omega)];rfl
  ·rw[aa (by omega),wT (by omega) (by omega),wT (by omega) (by omega)];simp only[aj];have e:wD .i64 (shl .i64 (zA (t.getD 0 0)) 8) (zA (t.getD 1 0))=Au t:=rfl;rw[e,zO (x:=(t.length:Int)-2) (by omega) (by omega)];by_cases h3:Au t>60000
   ·rw[aa h3];rfl
   ·rw[ab h3,aa (show Au t>(t.length:Int)-2 by rcases ht with h|h|h;exact absurd h h2;exact absurd h h3;exact h)];rfl
 |x::l,n,r,hl,hn,hb,hr=>by
  obtain⟨n,rfl⟩:∃m,n=m+1:=⟨n-1,by omega⟩;have hx:=hl x (List.mem_cons_self ..);have ex:eM (x::l)=jI x++eM l:=by simp[eM]
  have qi:=Dv x;rw[ex,List.length_append] at hb;have ih:=yEq (k:=k) ht qs l n (r++[x]) (fun y hy=>hl y (List.mem_cons_of_mem _ hy)) (by simp at hn;omega) (by omega) (by rw[List.length_append];simp at hr⊢;omega);rw[ex,List.append_assoc];obtain⟨B,hB⟩:∃B,eM l++t=B:=⟨_,rfl⟩;rw[hB] at ih⊢;have hBl:B.length≤2000000:=by rw[←hB,List.length_append];omega
  have hlen:(jI x++B).length=x.length+2+B.length:=by rw[List.length_append,qi]
  show Dx k (Dw k n) (jI x++B) r=_;unfold Dx;rw[aa (by omega),wT (by omega) (by omega),wT (by omega) (by omega)];simp only[aj];have e:wD .i64 (shl .i64 (zA ((jI x++B).getD 0 0)) 8) (zA ((jI x++B).getD 1 0))=(x.length:Int):=UJ hx rfl rfl;have hs:qR (jI x++B) 2 (x.length+2-2)=x:=by
   unfold qR;show List.take (x.length+2-2) (x++B)=x;exact List.take_left' (by omega)
  have hd:List.drop (x.length+2) (jI x++B)=B:=List.drop_left' qi;have w2:zA (2+(x.length:Int))=((x.length+2:Nat):Int):=by rw[zO (by omega) (by omega)];omega
  rw[e,w2,zO (x:=((jI x++B).length:Int)-2) (by omega) (by omega),ab (show¬(x.length:Int)>60000 by omega),ab (show¬(x.length:Int)>((jI x++B).length:Int)-2 by omega),aq,hs,hd,
   aa (show(2:Int)≤((x.length+2:Nat):Int) by omega),aa (show(0:Int)≤((x.length+2:Nat):Int) by omega),aa (show((x.length+2:Nat):Int)≤((jI x++B).length:Int) by omega),qH (by omega) (by omega),qH (by simp at hr;omega) (by simp at hr;omega)]
  simp only[an,Bool.and_self,aj];rw[ih,List.append_assoc];rfl
theorem yLt {k t}(ht:Cut t)(qs:t.length≤1000000){l}(hl:∀x∈l,x.length≤60000)(hn:l.length<k)(hm:l.length≤1000000)(hb:(eM l).length≤1000000):Nh k (eM l++t)=some (l,(t.length:Int)):=by
 unfold Nh;rw[yEq ht qs l k [] hl hn hb (by simp_all)];rfl
abbrev qY:=Int×Int×Int
abbrev zH:=Int×Int×Int×Int×Int×Int×Int
def fk (a:qY):Bool:=decide (a.1>-4611686018427387904)&&(decide (a.1<4611686018427387904)&&(decide (a.2.1≥0)&&(decide (a.2.1≤2305843009213693952)&&(decide (a.2.2≥0)&&decide (a.2.2≤2305843009213693952)))))
def wL (n:Int):Bool:=decide (n≥-1)&&decide (n≤2305843009213693952)
def gx (n:Int):Bool:=decide (n>-72057594037927936)&&decide (n<72057594037927936)
def cell (m:EQ)(i j:Nat):Int:=(m.getD i []).getD j 0
def mq (n:Nat)(m:EQ):Bool:=decide (m.length=n)&&qG (fun i=>decide ((m.getD i []).length=n)) n 0
def pn (p:Int→Bool)(n:Nat)(m:EQ):Bool:=qG (fun i=>qG (fun j=>p (cell m i j)) n 0) n 0
def vx (n:Nat)(m:EQ):Bool:=qG (fun i=>qG (fun j=>decide (cell m i j=zA (0-cell m j i))) n 0) n 0
def mr (vy:List qY)(bil:EQ)(mul:AC)(pos:EQ):Bool:=
 let n:=vy.length
 decide (1≤n)&&(decide (n≤6)&&(mq n bil&&(mq n pos&&(decide (mul.length=n)&&(qG (fun i=>fk (vy.getD i (0,0,0))) n 0&&(qG (fun i=>wL (mul.getD i 0)) n 0&&(pn wL n bil&&(pn gx n pos&&vx n pos))))))))
theorem UL k b c r:IC k b c r=some (fk (b,c,r)):=by
 unfold IC fk;grind
theorem yPk k b c r:Ni k b c r=some (fk (b,c,r)):=UL k b c r
theorem UM k n:ID k n=some (wL n):=by
 unfold ID wL;grind
theorem UN k n:UO k n=some (wL n):=UM k n
theorem vDn k n:Nj k n=some (gx n):=by
 unfold Nj gx;grind
theorem yH9 {k:Nat}{n:Nat}(hk:n<k)(hn:n≤1000)(m:EQ):IE k m n=some (mq n m):=by
 unfold IE mq;simp only[rD];by_cases h:m.length=n
 ·have := mn (L := fun c i => IF k c m n i) (N := n) (fun i => decide ((m.getD i []).length = n)) (.inl ()) (.inr false) (fun c=>by
    show Dy k _ m n n=_;unfold Dy;simp only [qU, ab (Nat.lt_irrefl n), an]) (fun c i hi=>by
    show Dy k _ m n i=_;unfold Dy;simp only[qC,qE hi (by omega),qU,rD,aq,h,aa hi,aj];cases decide ((m.getD i []).length=n)<;>rfl) hk
  simp only[h,decide_true,aE,an,Bool.true_and];rw[this];generalize qG _ _ _=r;cases r<;>rfl
 ·simp only[ab h,cp,aj,Bool.false_and]
theorem vN6 {k:Nat}{N i:Nat}(hk:N<k)(hN:N≤1000)(hi:i<N){a:List qY}{b p:EQ}{m:AC}(hb:b.length=N)(hp:p.length=N)(UP:∀j,j<N→(b.getD j []).length=N)(od:∀j,j<N→(p.getD j []).length=N):
  Dz k k N i 0 a b m p=some (bif qG (fun j=>wL (cell b i j)&&(gx (cell p i j)&&decide (cell p i j=zA (0-cell p j i)))) N 0 then .inl ((N:Int),(i:Int),a,b,m,p) else .inr false):=by
 refine mn (L:=fun c j=>Dz k c N i j a b m p) (N:=N) _ (.inl ((N:Int),(i:Int),a,b,m,p)) (.inr false) (fun c=>?_) (fun c j hj=>?_) hk
 ·show DA k _ N i N a b m p=_;unfold DA;simp only[qU,ab (Nat.lt_irrefl N),an]
 ·show DA k _ N i j a b m p=_;unfold DA;simp only[qC,qE hj (by omega),qU,aq,hb,hp,UP i hi,od i hi,od j hj,aa hj,aa hi,aj,UM,ae,gx];show(bif !wL (cell b i j) then _ else bif decide (cell p i j≤_) then _ else bif decide (cell p i j≥_) then _ else bif !decide (cell p i j=_) then _ else _)=_;have e1:decide (cell p i j≤-72057594037927936)= !decide (cell p i j>-72057594037927936):=by
   by_cases h:cell p i j≤-72057594037927936
   ·rw[aa h,ab (by omega)];rfl
   ·rw[ab h,aa (by omega)];rfl
  have e2:decide (cell p i j≥72057594037927936)= !decide (cell p i j<72057594037927936):=by
   by_cases h:cell p i j≥72057594037927936
   ·rw[aa h,ab (by omega)];rfl
   ·rw[ab h,aa (by omega)];rfl
  rw[e1,e2];show(bif !wL (cell b i j) then _ else bif _ then _ else bif _ then _ else bif !decide (cell p i j=zA (0-cell p j i)) then _ else _)=_;cases wL (cell b i j)<;>cases decide (cell p i j>-72057594037927936)<;>cases decide (cell p i j<72057594037927936)<;>cases decide (cell p i j=zA (0-cell p j i))<;>rfl
theorem vIi {k:Nat}{N:Nat}(hk:N<k)(hN:N≤1000){a:List qY}{b p:EQ}{m:AC}(ha:a.length=N)(hm:m.length=N)(hb:b.length=N)(hp:p.length=N)(UP:∀j,j<N→(b.getD j []).length=N)(od:∀j,j<N→(p.getD j []).length=N):
  DB k k N 0 a b m p=some (bif qG (fun i=>fk (a.getD i (0,0,0))&&(wL (m.getD i 0)&&qG (fun j=>wL (cell b i j)&&(gx (cell p i j)&&decide (cell p i j=zA (0-cell p j i)))) N 0)) N 0 then .inl () else .inr false):=by
 refine mn (L:=fun c j=>DB k c N j a b m p) (N:=N) _ (.inl ()) (.inr false) (fun c=>?_) (fun c i hi=>?_) hk
 ·show DC k _ N N a b m p=_;unfold DC;simp only[qU,ab (Nat.lt_irrefl N),an]
 ·show DC k _ N i a b m p=_;unfold DC;simp only[qC,qU,aq,ha,hm,aa hi,aj,UM,UL,ae,vN6 hk hN hi hb hp UP od];generalize qG _ N 0=r;show(bif !fk (a.getD i (0,0,0)) then _ else _)=_;cases fk (a.getD i (0,0,0))<;>cases wL (m.getD i 0)<;>cases r<;>simp only[aE,cp,aj,an,Bool.and_true,Bool.and_false,Bool.true_and,Bool.false_and,qE hi (show N<9223372036854775808 by omega)]
theorem vFq {k:Nat}(hk:10<k)(a:List qY)(b:EQ)(m:AC)(p:EQ):Nk k a b m p=some (mr a b m p):=by
 unfold Nk;have l1:decide ((a.length:Int)<1)= !decide (1≤a.length):=by
  by_cases h:1≤a.length
  ·rw[aa h,ab (by omega)];rfl
  ·rw[ab h,aa (by omega)];rfl
 have l2:decide ((a.length:Int)>6)= !decide (a.length≤6):=by
  by_cases h:a.length≤6
  ·rw[aa h,ab (by omega)];rfl
  ·rw[ab h,aa (by omega)];rfl
 rw[l1,l2];unfold mr;dsimp only;by_cases h1:1≤a.length
 case neg=>rw[ab h1];rfl
 by_cases h2:a.length≤6
 case neg=>rw[aa h1,ab h2];rfl
 rw[aa h1,aa h2];simp only[aE,an,Bool.true_and];rw[yH9 (by omega) (by omega),yH9 (by omega) (by omega)];simp only[ae,rD];cases hb:mq a.length b with
 |false=>rfl
 |true=>
  cases hp:mq a.length p with
  |false=>rfl
  |true=>
   by_cases hm:m.length=a.length
   case neg=>simp only[ab hm];rfl
   simp only[mq,bb,aY,gw] at hb hp;simp only[hm,decide_true,aE,an,Bool.true_and];rw[vIi (by omega) (by omega) rfl hm hb.1 hp.1 hb.2 hp.2];have e:(qG (fun i=>fk (a.getD i (0,0,0))) a.length 0&&(qG (fun i=>wL (m.getD i 0)) a.length 0&&(pn wL a.length b&&(pn gx a.length p&&vx a.length p))))=
     qG (fun i=>fk (a.getD i (0,0,0))&&(wL (m.getD i 0)&&qG (fun j=>wL (cell b i j)&&(gx (cell p i j)&&decide (cell p i j=zA (0-cell p j i)))) a.length 0)) a.length 0:=by
    rw[Bool.eq_iff_iff];simp only[pn,vx,bb,gw];constructor
    ·rintro⟨h1,h2,h3,h4,h5⟩ i hi
     exact⟨h1 i hi,h2 i hi,fun j hj=>⟨h3 i hi j hj,h4 i hi j hj,h5 i hi j hj⟩⟩
    ·intro h;exact⟨fun i hi=>(h i hi).1,fun i hi=>(h i hi).2.1,fun i hi j hj=>((h i hi).2.2 j hj).1,fun i hi j hj=>((h i hi).2.2 j hj).2.1,fun i hi j hj=>((h i hi).2.2 j hj).2.2⟩
   rw[e];generalize qG _ _ _=r;cases r<;>rfl
theorem vYp {k}{a:List qY}(hk:a.length<k)(hl:a.length<9223372036854775808):Nl k a=some (!qG (fun i=>fk (a.getD i (0,0,0))) a.length 0):=by
 obtain ⟨x, h1, h2⟩ := vn (L := fun c i => IG k c a a.length i) (N := a.length) (fun i => !fk (a.getD i (0, 0, 0))) (fun c=>by
  show DD k _ a a.length a.length=_;unfold DD;simp) (fun c i hi=>by
  show DD k _ a a.length i=_;unfold DD UQ;simp[qC,qE hi hl,aa hi,yPk]) hk
 unfold Nl UR;grind
theorem US {k a}(hk:a.length<k)(hl:a.length<9223372036854775808):Nm k a=some (!qG (fun i=>wL (a.getD i 0)) a.length 0):=by
 obtain ⟨x, h1, h2⟩ := vn (L := fun c i => IH k c a a.length i) (N := a.length) (fun i => !wL (a.getD i 0)) (fun c=>by
  show DE k _ a a.length a.length=_;unfold DE;simp) (fun c i hi=>by
  show DE k _ a a.length i=_;unfold DE UT;simp[qC,qE hi hl,aa hi,UN]) hk
 unfold Nm UU;grind
theorem vDz {k a}(hk:a.length<k)(hl:a.length<9223372036854775808):Nn k a=some (!qG (fun i=>gx (a.getD i 0)) a.length 0):=by
 obtain ⟨x, h1, h2⟩ := vn (L := fun c i => II k c a a.length i) (N := a.length) (fun i => !gx (a.getD i 0)) (fun c=>by
  show DF k _ a a.length a.length=_;unfold DF;simp) (fun c i hi=>by
  show DF k _ a a.length i=_;unfold DF UW;simp[qC,qE hi hl,aa hi,vDn]) hk
 unfold Nn UX;grind
theorem yV5 {k n:Nat}(hk:n<k)(hn:n≤1000)(a:AC):IJ k a n=some (decide (a.length=n)&&qG (fun i=>wL (a.getD i 0)) n 0):=by
 unfold IJ;simp only[rD];by_cases h:a.length=n
 ·rw[US (by omega) (by omega)];simp only[h,decide_true,aj,ae,Bool.not_not,Bool.true_and]
 ·simp only[ab h,an,Bool.false_and]
theorem vLe {k n:Nat}(hk:n<k)(hn:n≤1000)(a:AC):No k a n=some (decide (a.length=n)&&qG (fun i=>gx (a.getD i 0)) n 0):=by
 unfold No;simp only[rD];by_cases h:a.length=n
 ·rw[vDz (by omega) (by omega)];simp only[h,decide_true,aj,ae,Bool.not_not,Bool.true_and]
 ·simp only[ab h,an,Bool.false_and]
theorem vKl {k n:Nat}(hk:n<k)(hn:n≤1000)(m:EQ):Np k m n=some (decide (m.length=n)&&qG (fun i=>decide ((m.getD i []).length=n)&&qG (fun j=>wL (cell m i j)) n 0) n 0):=by
 unfold Np;simp only[rD];by_cases h:m.length=n
 ·have := mn (L := fun c i => IK k c n m n i) (N := n) (fun i => decide ((m.getD i []).length = n) && qG (fun j => wL (cell m i j)) n 0) (.inl ()) (.inr false) (fun c=>by
    show DG k _ n m n n=_;unfold DG;simp only [qU, ab (Nat.lt_irrefl n), an]) (fun c i hi=>by
    show DG k _ n m n i=_;unfold DG;simp only[qC,qE hi (by omega),qU,aq,h,aa hi,aj,yV5 hk hn,ae];show(bif !(decide ((m.getD i []).length=n)&&qG (fun j=>wL (cell m i j)) n 0) then _ else _)=_;generalize (decide ((m.getD i []).length=n)&&qG (fun j=>wL (cell m i j)) n 0)=r;cases r<;>rfl) hk
  simp only[h,decide_true,aE,an,Bool.true_and];rw[this];generalize qG _ _ _=r;cases r<;>rfl
 ·simp only[ab h,cp,aj,Bool.false_and]
theorem vK9 {k n:Nat}(hk:n<k)(hn:n≤1000)(m:EQ):Nq k m n=some (decide (m.length=n)&&qG (fun i=>decide ((m.getD i []).length=n)&&qG (fun j=>gx (cell m i j)) n 0) n 0):=by
 unfold Nq;simp only[rD];by_cases h:m.length=n
 ·have := mn (L := fun c i => IL k c n m n i) (N := n) (fun i => decide ((m.getD i []).length = n) && qG (fun j => gx (cell m i j)) n 0) (.inl ()) (.inr false) (fun c=>by
    show DH k _ n m n n=_;unfold DH;simp only [qU, ab (Nat.lt_irrefl n), an]) (fun c i hi=>by
    show DH k _ n m n i=_;unfold DH;simp only[qC,qE hi (by omega),qU,aq,h,aa hi,aj,vLe hk hn,ae];show(bif !(decide ((m.getD i []).length=n)&&qG (fun j=>gx (cell m i j)) n 0) then _ else _)=_;generalize (decide ((m.getD i []).length=n)&&qG (fun j=>gx (cell m i j)) n 0)=r;cases r<;>rfl) hk
  simp only[h,decide_true,aE,an,Bool.true_and];rw[this];generalize qG _ _ _=r;cases r<;>rfl
 ·simp only[ab h,cp,aj,Bool.false_and]
theorem vNe {k N i:Nat}(hk:N<k)(hN:N≤1000)(hi:i<N){p q:EQ}{u:Int}(hp:p.length=N)(od:∀j,j<N→(p.getD j []).length=N):
  DI k k p i q u i (p.getD i []) N 0=some (bif qG (fun j=>decide (cell p j i=zA (0-cell p i j))) N 0 then .inl (p,q,u,(i:Int)) else .inr false):=by
 refine mn (L:=fun c j=>DI k c p i q u i (p.getD i []) N j) (N:=N) _ (.inl (p,q,u,(i:Int))) (.inr false) (fun c=>?_) (fun c j hj=>?_) hk
 ·show DJ k _ p i q u i (p.getD i []) N N=_;unfold DJ;simp only[qU,ab (Nat.lt_irrefl N),an]
 ·show DJ k _ p i q u i (p.getD i []) N j=_;unfold DJ;simp only[qC,qE hj (show N<9223372036854775808 by omega),qU,aq,hp,od i hi,od j hj,aa hj,aa hi,aj];show(bif !decide (cell p j i=zA (0-cell p i j)) then _ else _)=_;generalize decide (cell p j i=zA (0-cell p i j))=r;cases r<;>rfl
theorem vSh {k N}(hk:N<k)(hN:N≤1000){p}(hp:p.length=N)(od:∀j,j<N→(p.getD j []).length=N):
  Nr k p=some (vx N p):=by
 have := mn (L := fun c i => IM k c p p N i) (N := N) (fun i => qG (fun j => decide (cell p j i = zA (0 - cell p i j))) N 0) (.inl ()) (.inr false) (fun c=>by
   show DK k _ p p N N=_;unfold DK;simp) (fun c i hi=>by
   show DK k _ p p N i=_;unfold DK;simp only[qC,qU,aq,hp,od i hi,aa hi,vNe hk hN hi hp od,ae];generalize qG _ N 0=r;cases r<;>simp[qE hi (by grind)]) hk
 unfold Nr;have e:qG (fun i=>qG (fun j=>decide (cell p j i=zA (0-cell p i j))) N 0) N 0=vx N p:=by
  rw[Bool.eq_iff_iff];simp[vx,gw];grind
 grind
theorem yVw {k:Nat}(hk:10<k)(a:List qY)(b:EQ)(m:AC)(p:EQ):Av k a b m p=some (mr a b m p):=by
 unfold Av;have l1:decide ((a.length:Int)<1)= !decide (1≤a.length):=by
  by_cases h:1≤a.length
  ·rw[aa h,ab (by omega)];rfl
  ·rw[ab h,aa (by omega)];rfl
 have l2:decide ((a.length:Int)>6)= !decide (a.length≤6):=by
  by_cases h:a.length≤6
  ·rw[aa h,ab (by omega)];rfl
  ·rw[ab h,aa (by omega)];rfl
 rw[l1,l2];unfold mr;dsimp only;by_cases h1:1≤a.length
 case neg=>rw[ab h1];rfl
 by_cases h2:a.length≤6
 case neg=>rw[aa h1,ab h2];rfl
 rw[aa h1,aa h2];simp only[aE,an,Bool.true_and];rw[vYp (by omega) (by omega),vKl (by omega) (by omega),yV5 (by omega) (by omega),vK9 (by omega) (by omega)];simp only[ae];generalize hA:qG (fun i=>fk (a.getD i (0,0,0))) a.length 0=A;have sq:∀(q:Int→Bool) (m:EQ),(decide (m.length=a.length)&&qG (fun i=>decide ((m.getD i []).length=a.length)&&qG (fun j=>q (cell m i j)) a.length 0) a.length 0)=(mq a.length m&&pn q a.length m):=by
  intro q m;rw[Bool.eq_iff_iff];simp only[mq,pn,bb,aY,gw];exact⟨fun h=>⟨⟨h.1,fun i hi=>(h.2 i hi).1⟩,fun i hi=>(h.2 i hi).2⟩,fun h=>⟨h.1.1,fun i hi=>⟨h.1.2 i hi,h.2 i hi⟩⟩⟩
 rw[sq wL b,sq gx p];cases hp:mq a.length p with
 |false=>
  cases A<;>cases mq a.length b<;>cases pn wL a.length b<;>cases decide (m.length=a.length)<;>cases qG (fun i=>wL (m.getD i 0)) a.length 0<;>rfl
 |true=>
  simp only[mq,bb,aY,gw] at hp;rw[vSh (N:=a.length) (by omega) (by omega) hp.1 hp.2];cases A<;>cases mq a.length b<;>cases pn wL a.length b<;>cases decide (m.length=a.length)<;>cases qG (fun i=>wL (m.getD i 0)) a.length 0<;>cases pn gx a.length p<;>cases vx a.length p<;>rfl
theorem yBc {k N:Nat}{s}(hN:s.length=N)(hl:N≤1000)(hr:∀i,i<N→(s.getD i []).length≤1000):∀c i n,i+c=N→c<n→IN k n s i (s.take i)=some s
 |0,i,n,h,hn=>by
  obtain⟨n,rfl⟩:∃m,n=m+1:=⟨n-1,by omega⟩;show DL k _ s i (s.take i)=_;unfold DL;grind
 |c+1,i,n,h,hn=>by
  obtain⟨n,rfl⟩:∃m,n=m+1:=⟨n-1,by omega⟩;show DL k _ s i (s.take i)=_;unfold DL;have hi:i<s.length:=by omega
  have h1:=hr i (by omega);have e1:zN (0+(s.getD i []).length) 8=true:=qH (by omega) (by omega);have e2:zN ((s.take i).length+1) 24=true:=qH (by grind) (by grind);simp only[qC,qE hi (by grind),qU,aq,aa hi,e1,e2];rw[jW s i [] hi];exact yBc hN hl hr c (i+1) n (by omega) (by omega)
theorem yXc {k s}(hl:s.length≤1000)(hk:s.length<k)(hr:∀i,i<s.length→(s.getD i []).length≤1000):IP k s=some s:=by
 unfold IP;have:=yBc (k:=k) rfl hl hr s.length 0 k (by omega) hk;simp_all
theorem vA3 {k N:Nat}{s}(hN:s.length=N)(hl:N≤1000)(hr:∀i,i<N→(s.getD i []).length≤1000):∀c i n,i+c=N→c<n→IQ k n s N i (s.take i) N=some (s,N)
 |0,i,n,h,hn=>by
  obtain⟨n,rfl⟩:∃m,n=m+1:=⟨n-1,by omega⟩;show DM k _ s N i (s.take i) N=_;unfold DM;grind
 |c+1,i,n,h,hn=>by
  obtain⟨n,rfl⟩:∃m,n=m+1:=⟨n-1,by omega⟩;show DM k _ s N i (s.take i) N=_;unfold DM pq;have hi:i<N:=by omega
  have h1:=hr i (by omega);have e1:zN (0+(s.getD i []).length) 8=true:=qH (by omega) (by omega);have e2:Nat.beq i (s.take i).length=true:=by rw[List.length_take,Nat.min_eq_left (by omega)];simp
  simp only[qC,qE hi (by grind),qU,aq,aa hi,aj,e1,e2,hN,ae];rw[jW s i [] (by omega)];exact vA3 hN hl hr c (i+1) n (by omega) (by omega)
theorem yG3 {k s}(hl:s.length≤1000)(hk:s.length<k)(hr:∀i,i<s.length→(s.getD i []).length≤1000):IS k s=some s:=by
 unfold IS UY;have:=vA3 (k:=k) rfl hl hr s.length 0 k (by omega) hk;rw[List.take_zero] at this;have e:((0:Nat):Int)=0:=rfl;rw[e] at this;have e1:zN (0+s.length) 24=true:=qH (by omega) (by omega);simp only[e1,aj,ae];rw[this];simp only[vX9];simp
structure Sized (a:List qY) (b:EQ) (m:AC) (p:EQ):Prop where
 n1:1≤a.length
 n6:a.length≤6
 bl:b.length=a.length
 br:∀i,i<a.length→(b.getD i []).length=a.length
 ml:m.length=a.length
 pl:p.length=a.length
 pr:∀i,i<a.length→(p.getD i []).length=a.length
structure wM (a:List qY) (b:EQ) (m:AC) (p:EQ):Prop extends Sized a b m p where
 acct:∀i,i<a.length→fk (a.getD i (0,0,0))=true
 mul:∀i,i<a.length→wL (m.getD i 0)=true
 bil:∀i,i<a.length→∀j,j<a.length→wL (cell b i j)=true
 net:∀i,i<a.length→∀j,j<a.length→gx (cell p i j)=true
 turn:∀i,i<a.length→∀j,j<a.length→cell p i j=zA (0-cell p j i)
theorem Ns {a:List qY}{b:EQ}{m:AC}{p:EQ}:mr a b m p=true↔wM a b m p:=by
 unfold mr;simp only[bb,aY,mq,pn,vx,gw];constructor
 ·rintro⟨h1,h2,⟨h3,h4⟩,⟨h5,h6⟩,h7,h8,h9,UZ,h11,h12⟩
  exact{n1:=h1,n6:=h2,bl:=h3,br:=h4,ml:=h7,pl:=h5,pr:=h6,acct:=h8,mul:=h9,bil:=UZ,net:=h11,turn:=h12}
 ·intro h;exact⟨h.n1,h.n6,⟨h.bl,h.br⟩,⟨h.pl,h.pr⟩,h.ml,h.acct,h.mul,h.bil,h.net,h.turn⟩
theorem IT {k}(hk:10<k){a b m p}(h:Sized a b m p):oe k a b m p=some (a,b,m,p):=by
 obtain⟨h1,h2,h3,h4,h5,h6,h7⟩:=h;unfold oe;have e1:zN (0+a.length) 24=true:=qH (by omega) (by omega);have e2:zN (0+m.length) 8=true:=qH (by omega) (by omega);rw[yXc (s:=b) (by omega) (by omega) (by grind),yXc (s:=p) (by omega) (by omega) (by grind)];grind
theorem IU {k}(hk:10<k){a b m p}(h:Sized a b m p):gb k a b m p=some (a,b,m,p):=by
 obtain⟨h1,h2,h3,h4,h5,h6,h7⟩:=h;unfold gb U0 pq;have e1:zN (0+a.length) 24=true:=qH (by omega) (by omega);have e2:zN (0+m.length) 8=true:=qH (by omega) (by omega);rw[yG3 (s:=b) (by omega) (by omega) (by grind),yG3 (s:=p) (by omega) (by omega) (by grind)];grind
theorem Nt {α:Type} d [DecidableEq α]{a b:List α}(h:a.length=b.length):qG (fun i=>decide (a.getD i d=b.getD i d)) a.length 0=decide (a=b):=by
 rw[Bool.eq_iff_iff,gw];simp;exact⟨fun h'=>Db d h h',by grind⟩
theorem Nu {k:Nat}{a b:AC}(hk:a.length<k)(hl:a.length<9223372036854775808):tx k a b=some (decide (a=b)):=by
 unfold tx;simp only[rD];by_cases h:a.length=b.length
 ·have := mn (L := fun c i => IV k c a b i) (N := a.length) (fun i => decide (a.getD i 0 = b.getD i 0)) (.inl ()) (.inr false) (fun c=>by
    show DN k _ a b a.length=_;unfold DN;simp only [qU, ab (Nat.lt_irrefl _), an]) (fun c i hi=>by
    show DN k _ a b i=_;unfold DN;simp only[qC,qE hi hl,qU,aq,←h,aa hi,aj];cases decide (a.getD i 0=b.getD i 0)<;>rfl) hk
  rw[Nt 0 h] at this;simp only[h,decide_true,aE,an];rw[this];cases decide (a=b)<;>rfl
 ·simp only[ab h,cp,aj];rw[ab fun e=>h (by rw[e])]
theorem U1 {k:Nat}{a b:EQ}(hk:a.length<k)(hl:a.length<9223372036854775808)(hr:∀i,i<a.length→(a.getD i []).length<k∧(a.getD i []).length<9223372036854775808):Aw k a b=some (decide (a=b)):=by
 unfold Aw;simp only[rD];by_cases h:a.length=b.length
 ·have := mn (L := fun c i => IW k c a b i) (N := a.length) (fun i => decide (a.getD i [] = b.getD i [])) (.inl ()) (.inr false) (fun c=>by
    show DO k _ a b a.length=_;unfold DO;simp only [qU, ab (Nat.lt_irrefl _), an]) (fun c i hi=>by
    show DO k _ a b i=_;unfold DO;simp only[qC,qE hi hl,qU,aq,←h,aa hi,aj,Nu (hr i hi).1 (hr i hi).2,ae];cases decide (a.getD i []=b.getD i [])<;>rfl) hk
  rw[Nt [] h] at this;simp only[h,decide_true,aE,an];rw[this];cases decide (a=b)<;>rfl
 ·simp only[ab h,cp,aj];rw[ab fun e=>h (by rw[e])]
theorem vOd {k:Nat}(hk:10<k){a:List qY}{b:EQ}{m:AC}{p:EQ}(h:Sized a b m p)(a':List qY)(b':EQ)(m':AC)(p':EQ):
  IX k a b m p a' b' m' p'=some (decide (a=a')&&(decide (b=b')&&(decide (p=p')&&decide (m=m')))):=by
 obtain⟨h1,h2,h3,h4,h5,h6,h7⟩:=h;unfold IX;simp only[rD];by_cases hl:a.length=a'.length
 ·rw[U1 (a:=b) (by omega) (by omega) (fun i hi=>by rw[h4 i (by omega)];omega),U1 (a:=p) (by omega) (by omega) (fun i hi=>by rw[h7 i (by omega)];omega),Nu (by omega) (by omega)];have := mn (L := fun c i => IY k c i a b m p a' b' m' p') (N := a.length) (fun i => decide (a.getD i (0, 0, 0) = a'.getD i (0, 0, 0))) (.inl ()) (.inr false) (fun c=>by
    show DP k _ a.length a b m p a' b' m' p'=_;unfold DP;simp only [qU, ab (Nat.lt_irrefl _), an]) (fun c i hi=>by
    show DP k _ i a b m p a' b' m' p'=_;unfold DP;simp only[qC,qE hi (show a.length<9223372036854775808 by omega),qU,aq,←hl,aa hi,aj];have e:decide (a.getD i (0,0,0)=a'.getD i (0,0,0))=(decide ((a.getD i (0,0,0)).1=(a'.getD i (0,0,0)).1)&&(decide ((a.getD i (0,0,0)).2.1=(a'.getD i (0,0,0)).2.1)&&decide ((a.getD i (0,0,0)).2.2=(a'.getD i (0,0,0)).2.2))):=by
     rw[Bool.eq_iff_iff];simp only[bb,aY];exact⟨fun h=>by rw[h];exact⟨rfl,rfl,rfl⟩,fun h=>Prod.ext h.1 (Prod.ext h.2.1 h.2.2)⟩
    rw[e];generalize (decide ((a.getD i (0,0,0)).1=(a'.getD i (0,0,0)).1)&&_)=r;cases r<;>rfl) (show a.length<k by omega)
  rw[Nt (0,0,0) hl] at this;simp only[hl,decide_true,aE,an,ae];have e0:((0:Nat):Int)=0:=rfl;rw[this];cases decide (b=b')<;>cases decide (p=p')<;>cases decide (m=m')<;>cases decide (a=a')<;>rfl
 ·simp only[ab hl,cp,aj];rw[ab fun e=>hl (by rw[e])];rfl
abbrev pd:zH:=(0,(0,(0,(0,(0,(0,0))))))
abbrev ad:qY:=(0,(0,0))
def pt (n:Nat)(p:zH):Bool:=decide (p.2.1≥0)&&(decide (p.2.1<(n:Int))&&(decide (p.2.2.1≥0)&&(decide (p.2.2.1<(n:Int))&&(!decide (p.2.1=p.2.2.1)&&(decide (p.2.2.2.1≥1)&&(decide (p.2.2.2.1≤1099511627776)&&(decide (p.2.2.2.2.1≥1)&&decide (p.2.2.2.2.1≤3))))))))
structure yH (n:Nat) (p:zH):Prop where
 f0:0≤p.2.1
 f1:p.2.1<n
 t0:0≤p.2.2.1
 t1:p.2.2.1<n
 ne:p.2.1≠p.2.2.1
 a1:1≤p.2.2.2.1
 a2:p.2.2.2.1≤1099511627776
 c1:1≤p.2.2.2.2.1
 c3:p.2.2.2.2.1≤3
theorem U2 {n p}:pt n p=true↔yH n p:=by
 unfold pt;simp;exact⟨fun⟨h1,h2,h3,h4,h5,h6,h7,h8,h9⟩=>⟨h1,h2,h3,h4,h5,h6,h7,h8,h9⟩,fun⟨h1,h2,h3,h4,h5,h6,h7,h8,h9⟩=>by grind⟩
theorem Nv k (a:List qY) b m p i f t am c s ti:DQ k a b m p i f t am c s ti=some (pt a.length (i,f,t,am,c,s,ti)):=by
 unfold DQ pt;grind
theorem U3 k (a:List qY) b m p i f t am c s ti:U4 k a b m p i f t am c s ti=some (pt a.length (i,f,t,am,c,s,ti)):=Nv k a b m p i f t am c s ti
def ni (n:Nat)(l:List zH):Bool:=qG (fun i=>pt n (l.getD i pd)) l.length 0
theorem Ax {n l}:ni n l=true↔∀p∈l,yH n p:=by
 unfold ni;rw[gw];constructor
 ·intro h p hp;obtain⟨i,hi,rfl⟩:=List.getElem_of_mem hp;have:=h i hi;rw[List.getD_eq_getElem?_getD,List.getElem?_eq_getElem hi] at this;exact U2.1 this
 ·intro h i hi;exact U2.2 (by grind)
theorem vKp {k}{l:List zH}(hk:l.length<k)(hl:l.length<9223372036854775808)(a:List qY) b m p:Nw k l a b m p=some (!ni a.length l):=by
 obtain ⟨x, h1, h2⟩ := vn (L := fun c i => IZ k c l l.length i a b m p) (N := l.length) (fun i => !pt a.length (l.getD i pd)) (fun c=>by
  show DR k _ l l.length l.length a b m p=_;unfold DR;simp) (fun c i hi=>by
  show DR k _ l l.length i a b m p=_;unfold DR U5;simp[qC,qE hi hl,aa hi,Nv]) hk
 unfold Nw U6;unfold ni;grind
theorem yHd {k}{l:List zH}(hk:l.length<k)(hl:l.length<9223372036854775808)(a:List qY) b m p:I1 k a b m p l=some (ni a.length l&&decide (l.length≤64)):=by
 unfold I1;have := mn (L := fun c i => I2 k c l i a b m p) (N := l.length) (fun i => pt a.length (l.getD i pd)) (.inl l) (.inr false) (fun c=>by
  show DS k _ l l.length a b m p=_;unfold DS;simp) (fun c i hi=>by
  show DS k _ l i a b m p=_;unfold DS;simp only[qC,qE hi hl,qU,aa hi,U3];simp) hk
 unfold ni;have e:decide (((l.length:Nat):Int)≤64)=decide (l.length≤64):=by
  grind
 grind
def gB (i:Nat)(p:zH):Int:=(if p.2.2.1=i then p.2.2.2.1 else 0)-(if p.2.1=i then p.2.2.2.1 else 0)
def gS (i j:Nat)(p:zH):Int:=if p.2.1=i∧p.2.2.1=j then p.2.2.2.1 else 0
def gR (i:Nat)(p:zH):Int:=if p.2.1=i∧p.2.2.2.2.1≠3 then p.2.2.2.1 else 0
def wX (r s:Int):Int:=if s≥r then 0 else r-s
theorem vFk {r s t}(hs:0≤s)(ht:0≤t):wX (wX r s) t=wX r (s+t):=by
 unfold wX;omega
theorem U7 {r}(hr:0≤r):wX r 0=r:=by
 unfold wX;omega
theorem vJ7 {r s}:0≤wX r s:=by
 unfold wX;omega
theorem vVj {r s}(hr:0≤r)(hs:0≤s):wX r s≤r:=by
 unfold wX;omega
section
variable {n:Nat} {p:zH}
theorem vSi (h:yH n p) i:-1099511627776≤gB i p∧gB i p≤1099511627776:=by
 have h1:=h.a1;have h2:=h.a2;unfold gB;omega
theorem U8 (h:yH n p) i j:0≤gS i j p∧gS i j p≤1099511627776:=by
 have h1:=h.a1;have h2:=h.a2;unfold gS;omega
theorem Nx (h:yH n p) i:0≤gR i p∧gR i p≤1099511627776:=by
 have h1:=h.a1;have h2:=h.a2;unfold gR;omega
end
def vY (n:Nat)(l:List zH):Prop:=(∀p∈l,yH n p)∧l.length≤64
theorem U9 {n l}(h:vY n l) i:-70368744177664≤zP (gB i) l∧zP (gB i) l≤70368744177664:=by
 have h1:=C9 (g:=gB i) (A:=1099511627776) fun p hp=>vSi (h.1 p hp) i
 have h2:=h.2;omega
theorem tz {n l}(h:vY n l) i j:0≤zP (gS i j) l∧zP (gS i j) l≤70368744177664:=by
 have h1:=C9 (g:=gS i j) (A:=1099511627776) fun p hp=>by have:=U8 (h.1 p hp) i j;omega
 have h0:=vp (g:=gS i j) fun p hp=>(U8 (h.1 p hp) i j).1
 have h2:=h.2;omega
theorem Ay {n l}(h:vY n l) i:0≤zP (gR i) l∧zP (gR i) l≤70368744177664:=by
 have h1:=C9 (g:=gR i) (A:=1099511627776) fun p hp=>by have:=Nx (h.1 p hp) i;omega
 have h0:=vp (g:=gR i) fun p hp=>(Nx (h.1 p hp) i).1
 have h2:=h.2;omega
theorem vY.take {n l}(h:vY n l) i:vY n (l.take i):=⟨fun p hp=>h.1 p (by grind),by rw[List.length_take];have:=h.2;omega⟩
structure tA (n:Nat) (a:List qY) (p:EQ) (l:List zH) (a':List qY) (p':EQ):Prop where
 al:a'.length=n
 acct:∀i,i<n→a'.getD i ad=((a.getD i ad).1+zP (gB i) l,(a.getD i ad).2.1,wX (a.getD i ad).2.2 (zP (gR i) l))
 pl:p'.length=n
 pr:∀i,i<n→(p'.getD i []).length=n
 cell:∀i,i<n→∀j,j<n→cell p' i j=cell p i j+zP (gS i j) l-zP (gS j i) l
theorem vXp {n p q}(hp:p.length=n)(hq:q.length=n)(od:∀i,i<n→(p.getD i []).length=n)(hqr:∀i,i<n→(q.getD i []).length=n)(h:∀i,i<n→∀j,j<n→cell p i j=cell q i j):p=q:=
 Db [] (by omega) fun i hi=>Db 0 (by simp_all) fun j hj=>h i (by omega) j (by simp_all)
theorem tA.same {n a a1 a2 p p1 p2 l}(x:tA n a p l a1 p1)(y:tA n a p l a2 p2):a1=a2∧p1=p2:=
 ⟨Db ad (by rw[x.al,y.al]) fun i hi=>by have:=x.al;rw[x.acct i (by omega),y.acct i (by omega)],
  vXp x.pl y.pl x.pr y.pr fun i hi j hj=>by rw[x.cell i hi j hj,y.cell i hi j hj]⟩
structure Ny (n:Nat) (a:List qY) (p:EQ):Prop where
 al:a.length=n
 pl:p.length=n
 pr:∀i,i<n→(p.getD i []).length=n
 bal:∀i,i<n→-4611686018427387904<(a.getD i ad).1∧(a.getD i ad).1<4611686018427387904
 res:∀i,i<n→0≤(a.getD i ad).2.2∧(a.getD i ad).2.2≤2305843009213693952
 net:∀i,i<n→∀j,j<n→-72057594037927936<cell p i j∧cell p i j<72057594037927936
theorem wM.nums {a b m p}(h:wM a b m p):Ny a.length a p where
 al:=rfl
 pl:=h.pl
 pr:=h.pr
 bal:=fun i hi=>by
  have:=h.acct i hi;show-4611686018427387904<(a.getD i (0,0,0)).1∧(a.getD i (0,0,0)).1<4611686018427387904;simp only[fk,bb,aY] at this;omega
 res:=fun i hi=>by
  have:=h.acct i hi;show 0≤(a.getD i (0,0,0)).2.2∧(a.getD i (0,0,0)).2.2≤2305843009213693952;simp only[fk,bb,aY] at this;omega
 net:=fun i hi j hj=>by
  have:=h.net i hi j hj;simp[gx] at this;omega
theorem Va {m f t i j x}(hf:f<m.length)(ht:t<(m.getD f []).length):cell (m.set f ((m.getD f []).set t x)) i j=if i=f∧j=t then x else cell m i j:=by
 unfold cell;grind
theorem Nz {n}{m:EQ}{f t x}(hm:m.length=n)(hr:∀i,i<n→(m.getD i []).length=n)(hf:f<n):∀i,i<n→((m.set f ((m.getD f []).set t x)).getD i []).length=n:=by
 grind
def DT (p:zH)(r:List qY):List qY:=
 let y0:=r.set p.2.1.toNat (zA ((r.getD p.2.1.toNat ad).1-p.2.2.2.1),(r.getD p.2.1.toNat ad).2);let y1:=y0.set p.2.2.1.toNat (zA ((y0.getD p.2.2.1.toNat ad).1+p.2.2.2.1),(y0.getD p.2.2.1.toNat ad).2)
 bif !decide (p.2.2.2.2.1=3) then y1.set p.2.1.toNat ((y1.getD p.2.1.toNat ad).1,((y1.getD p.2.1.toNat ad).2.1,wU false (zA ((y1.getD p.2.1.toNat ad).2.2-p.2.2.2.1)) 0)) else y1
def vz (p:zH)(m:EQ):EQ:=
 let y3:=m.set p.2.1.toNat ((m.getD p.2.1.toNat []).set p.2.2.1.toNat (zA ((m.getD p.2.1.toNat []).getD p.2.2.1.toNat 0+p.2.2.2.1)))
 y3.set p.2.2.1.toNat ((y3.getD p.2.2.1.toNat []).set p.2.1.toNat (zA ((y3.getD p.2.2.1.toNat []).getD p.2.1.toNat 0-p.2.2.2.1)))
theorem Vb p r:(DT p r).length=r.length:=by
 unfold DT;grind
theorem vVy {n p}(h:yH n p){r}(hr:r.length=n){i}(hi:i<n)(hb:∀i,i<n→-4611826755915743232<(r.getD i ad).1∧(r.getD i ad).1<4611826755915743232)
  (hz:∀i,i<n→0≤(r.getD i ad).2.2∧(r.getD i ad).2.2≤2305843009213693952):(DT p r).getD i ad=((r.getD i ad).1+gB i p,(r.getD i ad).2.1,wX (r.getD i ad).2.2 (gR i p)):=by
 obtain⟨f0,f1,t0,t1,ne,a1,a2,c1,c3⟩:=h;obtain⟨f,hf⟩:∃f:Nat,p.2.1=f:=⟨p.2.1.toNat,by omega⟩;obtain⟨t,ht⟩:∃t:Nat,p.2.2.1=t:=⟨p.2.2.1.toNat,by omega⟩;have NA:f≠t:=by omega
 have gZ:f<n:=by omega
 have gy:t<n:=by omega
 have bf:=hb f gZ;have bt:=hb t gy;have zf:=hz f gZ;have e1:(r.set f (zA ((r.getD f ad).1-p.2.2.2.1),(r.getD f ad).2)).getD t ad=r.getD t ad:=by rw[fj,if_neg (fun e=>NA e.1)]
 have key:∀j,j<n→((r.set f (zA ((r.getD f ad).1-p.2.2.2.1),(r.getD f ad).2)).set t (zA ((r.getD t ad).1+p.2.2.2.1),(r.getD t ad).2)).getD j ad=((r.getD j ad).1+gB j p,(r.getD j ad).2):=by
  intro j hj;unfold gB;rw[hf,ht,fj];by_cases hjt:t=j
  ·subst hjt;rw[if_pos (by grind),if_pos rfl,if_neg (by omega),zO (by omega) (by omega)];simp
  ·rw[if_neg (fun e=>hjt e.1),if_neg (by omega),fj];by_cases hjf:f=j
   ·subst hjf;rw[if_pos ⟨rfl,by omega⟩,if_pos rfl,zO (by omega) (by omega)];simp only[Int.zero_sub];rfl
   ·rw[if_neg (fun e=>hjf e.1),if_neg (by omega)];simp
 unfold DT;simp only[hf,ht,aq,e1];unfold gR;cases hc:decide (p.2.2.2.2.1=3) with
 |true=>
  have ld:p.2.2.2.2.1=3:=by simpa using hc
  simp only[aE,an];rw[key i hi,if_neg (fun e=>e.2 ld),U7 (hz i hi).1]
 |false=>
  have ld:p.2.2.2.2.1≠3:=by simpa using hc
  simp only[cp,aj];rw[fj];by_cases hif:f=i
  ·subst hif;rw[if_pos (by grind),key f gZ,if_pos ⟨hf,ld⟩];have:wU false (zA ((r.getD f ad).2.2-p.2.2.2.1)) 0=wX (r.getD f ad).2.2 p.2.2.2.1:=by
    rw[zO (by omega) (by omega)];unfold wU wX;grind
   rw[this]
  ·rw[if_neg (fun e=>hif e.1),key i hi,if_neg (by omega),U7 (hz i hi).1]
theorem vAt {n:Nat}{p:zH}(h:yH n p){m:EQ}(hm:m.length=n)(hr:∀i,i<n→(m.getD i []).length=n)(hb:∀i,i<n→∀j,j<n→-72128000000000000<cell m i j∧cell m i j<72128000000000000):
  (vz p m).length=n∧(∀i,i<n→((vz p m).getD i []).length=n)∧∀i,i<n→∀j,j<n→cell (vz p m) i j=cell m i j+gS i j p-gS j i p:=by
 obtain⟨f0,f1,t0,t1,ne,a1,a2,c1,c3⟩:=h;obtain⟨f,hf⟩:∃f:Nat,p.2.1=f:=⟨p.2.1.toNat,by omega⟩;obtain⟨t,ht⟩:∃t:Nat,p.2.2.1=t:=⟨p.2.2.1.toNat,by omega⟩;have NA:f≠t:=by omega
 have gZ:f<n:=by omega
 have gy:t<n:=by omega
 unfold vz;simp only[hf,ht,aq];have r1:=Nz (x:=zA ((m.getD f []).getD t 0+p.2.2.2.1)) (t:=t) hm hr gZ;have c1:∀i j,cell (m.set f ((m.getD f []).set t (zA ((m.getD f []).getD t 0+p.2.2.2.1)))) i j=if i=f∧j=t then zA (cell m f t+p.2.2.2.1) else cell m i j:=fun i j=>Va (by omega) (by rw[hr f gZ];omega)
 refine⟨by simp only[List.length_set];exact hm,by grind,fun i hi j hj=>?_⟩;rw[Va (by rw[List.length_set];omega) (by rw[r1 t gy];omega)];have e2:((m.set f ((m.getD f []).set t (zA ((m.getD f []).getD t 0+p.2.2.2.1)))).getD t []).getD f 0=cell m t f:=by
  show cell _ t f=_;simp_all
 rw[e2,c1];unfold gS;rw[hf,ht];have b1:=hb f gZ t gy;have b2:=hb t gy f gZ;by_cases h1:i=t∧j=f
 ·obtain⟨rfl,rfl⟩:=h1;rw[if_pos ⟨rfl,rfl⟩,if_neg (by omega),if_pos ⟨rfl,rfl⟩,zO (by omega) (by omega)];omega
 ·rw[if_neg h1];by_cases h2:i=f∧j=t
  ·obtain⟨rfl,rfl⟩:=h2;rw[if_pos ⟨rfl,rfl⟩,if_pos ⟨rfl,rfl⟩,if_neg (by omega),zO (by omega) (by omega)];omega
  omega
theorem vDo {k n a b m p l}(hk:l.length<k)(hx:Ny n a p)(hl:vY n l)(b0:List qY) b1 b2 b3:
  ∃a' p',DU k k l l.length 0 b0 b1 b2 b3 a b m p=some (b0,b1,b2,b3,a',b,m,p')∧tA n a p l a' p':=by
 have := yS (L := fun c i (s : List qY × EQ) => DU k c l l.length i b0 b1 b2 b3 s.1 b m s.2) (N := l.length) (fun s => (b0, b1, b2, b3, s.1, b, m, s.2)) (fun i s => tA n a p (l.take i) s.1 s.2) (fun c s hs=>by
   show DV k _ l l.length l.length b0 b1 b2 b3 s.1 b m s.2=_;unfold DV;simp) (fun c i s hi hs=>by
   refine⟨(DT (l.getD i pd) s.1,vz (l.getD i pd) s.2),?_,?_⟩
   ·show DV k _ l l.length i b0 b1 b2 b3 s.1 b m s.2=_;have bN:yH n (l.getD i pd):=hl.1 _ (jQ hi);unfold DV DT vz;have nj:=hl.2;simp only[qC,qE hi (by grind),qU,aq,aa hi,aj];obtain⟨f0,f1,t0,t1,ne,a1,a2,c1,c3⟩:=bN;obtain⟨f,hf⟩:∃f:Nat,(l.getD i pd).2.1=f:=⟨(l.getD i pd).2.1.toNat,by omega⟩;obtain⟨t,ht⟩:∃t:Nat,(l.getD i pd).2.2.1=t:=⟨(l.getD i pd).2.2.1.toNat,by omega⟩;have gZ:f<n:=by omega
    have gy:t<n:=by omega
    have r1:=Nz (x:=zA ((s.2.getD f []).getD t 0+(l.getD i pd).2.2.2.1)) (t:=t) hs.pl hs.pr gZ;simp only[hf,ht,aq,qC,hs.al,hs.pl,List.length_set,hs.pr f gZ,r1 t gy,aa gZ,aa gy,aj,v9,ae];grind
   ·have bN:yH n (l.getD i pd):=hl.1 _ (jQ hi);have aR:=hl.take i;have hp := vAt bN hs.pl hs.pr (fun i' bG j' l9=>by
     rw[hs.cell i' bG j' l9];have h1:=hx.net i' bG j' l9;have h2:=tz aR i' j';have h3:=tz aR j' i';omega)
    refine⟨by rw[Vb];exact hs.al,fun i' bG=>?_,hp.1,hp.2.1,fun i' bG j' l9=>?_⟩
    ·rw [vVy bN hs.al bG (fun j hj=>by
       rw[hs.acct j hj];have h1:=hx.bal j hj;have h2:=U9 aR j;dsimp only;omega) (fun j hj=>by
       rw[hs.acct j hj];have h1:=hx.res j hj;have h2:=Ay aR j;dsimp only;exact⟨vJ7,Int.le_trans (vVj h1.1 h2.1) h1.2⟩),hs.acct i' bG,←jW l i pd hi,lD,lD]
     dsimp only[zP];rw[vFk (Ay aR i').1 (Nx bN i').1,Int.add_zero,Int.add_zero,Int.add_assoc]
    ·rw[hp.2.2 i' bG j' l9,hs.cell i' bG j' l9,←jW l i pd hi,lD,lD];dsimp only[zP];omega) (s:=(a,p)) hk ⟨hx.al,fun i hi=>by
      rw[List.take_zero];show a.getD i ad=((a.getD i ad).1+0,(a.getD i ad).2.1,wX (a.getD i ad).2.2 0);rw[U7 (hx.res i hi).1,Int.add_zero],hx.pl,hx.pr,fun i hi j hj=>by
      rw[List.take_zero];show cell p i j=cell p i j+0-0;omega⟩
 simp_all
theorem Vc {k n l}(hk:l.length<k)(hl:vY n l)(i j:Nat):wa k l i j=some (zP (gS i j) l):=by
 have nj:=hl.2;obtain ⟨s, h1, h2⟩ := yS (L := fun c x (s : Int) => I3 k c l i j s x) (N := l.length) (fun s => s) (fun x s => s = zP (gS i j) (l.take x)) (fun c s hs=>by
   show DW k _ l i j s l.length=_;unfold DW;simp) (fun c x s hx hs=>by
   refine⟨zP (gS i j) (l.take (x+1)),?_,rfl⟩;show DW k _ l i j s x=_;have hb:=tz (hl.take x) i j;have hm:yH n (l.getD x pd):=hl.1 _ (by grind);have e:zP (gS i j) (l.take (x+1))=s+gS i j (l.getD x pd):=by
    rw[←jW l x pd hx,lD,hs];show _+(_+0)=_;omega
   have w:=zO (x:=s+(l.getD x pd).2.2.2.1) (by have:=hm.a1;omega) (by have:=hm.a2;omega);unfold DW;simp[qC,qE hx (by grind)];rw[e];unfold gS;grind) (s:=0) hk rfl
 unfold wa;simp_all
theorem vPe {k n l}(hk:l.length<k)(hl:vY n l)(i j:Nat):NB k l i j=some (zP (gS i j) l-zP (gS j i) l):=by
 unfold NB;rw[Vc hk hl i j,Vc hk hl j i];have h1:=tz hl i j;have h2:=tz hl j i;simp;rw[zO (by omega) (by omega)]
def gN (i:Nat)(p:zH):Int:=if p.2.1=i∧p.2.2.2.2.1=3 then p.2.2.2.1 else 0
theorem NC {n p}(h:yH n p) i:0≤gN i p∧gN i p≤1099511627776:=by
 have h1:=h.a1;have h2:=h.a2;unfold gN;omega
theorem yF1 {n l}(h:vY n l) i:0≤zP (gN i) l∧zP (gN i) l≤70368744177664:=by
 have h1:=C9 (g:=gN i) (A:=1099511627776) fun p hp=>by have:=NC (h.1 p hp) i;omega
 have h0:=vp (g:=gN i) fun p hp=>(NC (h.1 p hp) i).1
 have h2:=h.2;omega
theorem yTh {k n:Nat}{l}(hk:l.length<k)(hl:vY n l)(i:Nat):I4 k l i=some (zP (gN i) l,zP (gR i) l):=by
 have nj:=hl.2;obtain ⟨s, h1, h2⟩ := yS (L := fun c x (s : Int × Int) => I5 k c l i s.1 s.2 x) (N := l.length) (fun s => s) (fun x s => s = (zP (gN i) (l.take x), zP (gR i) (l.take x))) (fun c s hs=>by
   show DX k _ l i s.1 s.2 l.length=_;unfold DX;simp) (fun c x s hx hs=>by
   refine⟨(zP (gN i) (l.take (x+1)),zP (gR i) (l.take (x+1))),?_,rfl⟩;show DX k _ l i s.1 s.2 x=_;have hb:=yF1 (hl.take x) i;have bF:=Ay (hl.take x) i;have hm:yH n (l.getD x pd):=hl.1 _ (by grind);have e:zP (gN i) (l.take (x+1))=s.1+gN i (l.getD x pd):=by
    rw[←jW l x pd hx,lD,hs];show _+(_+0)=_;omega
   have e':zP (gR i) (l.take (x+1))=s.2+gR i (l.getD x pd):=by
    rw[←jW l x pd hx,lD,hs];show _+(_+0)=_;omega
   have w:=zO (x:=s.1+(l.getD x pd).2.2.2.1) (by have:=hm.a1;grind) (by have:=hm.a2;grind);have w':=zO (x:=s.2+(l.getD x pd).2.2.2.1) (by have:=hm.a1;rw[hs];omega) (by have:=hm.a2;grind);unfold DX;simp only[qC,qE hx (by grind),qU,aj];rw[e,e'];unfold gN gR;grind) (s:=(0,0)) hk rfl
 unfold I4;simp_all
theorem vEa {k n l}(hk:l.length<k)(hl:vY n l)(i:Nat):ND k l i=some (zP (gR i) l):=by
 unfold ND;rw[yTh hk hl i];rfl
theorem yM9 k b c r s (h:-9223372036854775808≤r-s)(h':r<9223372036854775808)(hs:0≤s):I6 k b c r s=some (wX r s):=by
 unfold I6 wX;by_cases e:s≥r
 ·simp_all
 ·rw[ab e,if_neg e,zO h (by omega)];rfl
theorem yCd {n l}(hl:∀p∈l,yH n p) i (hi:i<n):qI (fun j=>zP (gS i j) l-zP (gS j i) l) n= -zP (gB i) l:=by
 have e1:qI (fun j=>zP (gS i j) l-zP (gS j i) l) n=qI (fun j=>zP (fun p=>gS i j p-gS j i p) l) n:=rE fun j _=>(Uu _ _ l).symm
 rw[e1,M7 (fun j p=>gS i j p-gS j i p)];have e2:∀p∈l,qI (fun j=>gS i j p-gS j i p) n=0-gB i p:=by
  intro p hp;obtain⟨f0,f1,t0,t1,ne,a1,a2,c1,c3⟩:=hl p hp;obtain⟨f,hf⟩:∃f:Nat,p.2.1=f:=⟨p.2.1.toNat,by omega⟩;obtain⟨t,ht⟩:∃t:Nat,p.2.2.1=t:=⟨p.2.2.1.toNat,by omega⟩;have g1:∀j,gS i j p-gS j i p=(if j=t then(if f=i then p.2.2.2.1 else 0) else 0)+(if j=f then(if t=i then-p.2.2.2.1 else 0) else 0):=by
   unfold gS;omega
  rw[rE fun j _=>g1 j,Da,zx,zx];unfold gB;omega
 rw[M6 e2,Uu];have:zP (fun _:zH=>(0:Int)) l=0:=by
  clear e1 e2 hl
  induction l with
  |nil=>rfl
  |cons p l ih=>show 0+zP _ l=0;omega
 omega
structure Vd (n:Nat) (a:List qY) (p:EQ) (l:List zH) (i:Nat) (a':List qY) (p':EQ):Prop where
 al:a'.length=n
 done:∀x,x<n→x<i→a'.getD x ad=((a.getD x ad).1+zP (gB x) l,(a.getD x ad).2.1,wX (a.getD x ad).2.2 (zP (gR x) l))
 rest:∀x,x<n→¬x<i→a'.getD x ad=a.getD x ad
 pl:p'.length=n
 pr:∀x,x<n→(p'.getD x []).length=n
 cell:∀x,x<n→∀y,y<n→cell p' x y=if x<i then cell p x y+zP (gS x y) l-zP (gS y x) l else cell p x y
structure Ve (n:Nat) (a:List qY) (p:EQ) (l:List zH) (i j:Nat) (a':List qY) (p':EQ):Prop where
 al:a'.length=n
 done:∀x,x<n→x<i→a'.getD x ad=((a.getD x ad).1+zP (gB x) l,(a.getD x ad).2.1,wX (a.getD x ad).2.2 (zP (gR x) l))
 here:a'.getD i ad=((a.getD i ad).1-qI (fun j=>zP (gS i j) l-zP (gS j i) l) j,(a.getD i ad).2.1,wX (a.getD i ad).2.2 (zP (gR i) l))
 rest:∀x,x<n→i<x→a'.getD x ad=a.getD x ad
 pl:p'.length=n
 pr:∀x,x<n→(p'.getD x []).length=n
 cell:∀x,x<n→∀y,y<n→cell p' x y=if x<i∨(x=i∧y<j) then cell p x y+zP (gS x y) l-zP (gS y x) l else cell p x y
theorem vG4 {k n a p l}(hk:n<k)(bL:l.length<k)(hn:n≤1000)(hx:Ny n a p)(hl:vY n l){i}(hi:i<n)(b0:List qY) b1 b2 b3 b m
  {a0 p0} (h0:Ve n a p l i 0 a0 p0):∃a' p',DY k k l i 0 b0 b1 b2 b3 a0 b m p0=some (l,(i:Int),b0,b1,b2,b3,a',b,m,p')∧Ve n a p l i n a' p':=by
 obtain ⟨s, h1, h2⟩ := yS (L := fun c j (s : List qY × EQ) => DY k c l i j b0 b1 b2 b3 s.1 b m s.2) (N := n) (fun s => (l, (i : Int), b0, b1, b2, b3, s.1, b, m, s.2)) (fun j s => Ve n a p l i j s.1 s.2) (fun c s hs=>by
   show DZ k _ l i n b0 b1 b2 b3 s.1 b m s.2=_;unfold DZ;simp only [qU, hs.al, ab (Nat.lt_irrefl _), an]) (fun c j s hj hs=>by
   refine⟨(s.1.set i (zA ((s.1.getD i ad).1-(zP (gS i j) l-zP (gS j i) l)),(s.1.getD i ad).2),s.2.set i ((s.2.getD i []).set j (zA ((s.2.getD i []).getD j 0+(zP (gS i j) l-zP (gS j i) l))))),?_,?_⟩
   ·show DZ k _ l i j b0 b1 b2 b3 s.1 b m s.2=_;unfold DZ;simp only[qC,qE hj (by grind),qU,aq,hs.al,hs.pl,hs.pr i hi,aa hi,aa hj,aj,vPe bL hl,ae]
   ·have hb:=hx.bal i hi;have hg:∀j,-70368744177664≤zP (gS i j) l-zP (gS j i) l∧zP (gS i j) l-zP (gS j i) l≤70368744177664:=fun j=>by
     have h1:=tz hl i j;have h2:=tz hl j i;omega
    have CI:=vq hg j;have C5:=hg j;have pv:=hx.net i hi j hj;have hc:=hs.cell i hi j hj;rw[if_neg (by omega)] at hc;refine⟨by simp only[List.length_set];exact hs.al,fun x jh wb=>?_,?_,fun x jh wb=>?_,by simp only[List.length_set];exact hs.pl,Nz hs.pl hs.pr hi,fun x jh y I7=>?_⟩
    ·rw[fj,if_neg (by grind)];exact hs.done x jh wb
    ·rw[fj,if_pos ⟨rfl,by rw[hs.al];exact hi⟩,hs.here];dsimp only;rw[zO (by omega) (by omega)];show(_,_)=((a.getD i ad).1-(qI _ j+_),_);grind
    ·rw[fj,if_neg (by grind)];exact hs.rest x jh wb
    ·have e:(s.2.getD i []).getD j 0=cell p i j:=hc;rw[Va (by rw[hs.pl];exact hi) (by rw[hs.pr i hi];exact hj),e];by_cases NF:x=i∧y=j
     ·obtain⟨rfl,rfl⟩:=NF;rw[if_pos ⟨rfl,rfl⟩,if_pos (by omega),zO (by omega) (by omega)];omega
     ·rw[if_neg NF,hs.cell x jh y I7];omega) (s:=(a0,p0)) hk h0
 grind
theorem vEy {k n a b m p l}(hk:n<k)(bL:l.length<k)(hn:n≤1000)(hx:Ny n a p)(hl:vY n l)(b0:List qY) b1 b2 b3:
  ∃a' p',D3 k k l 0 b0 b1 b2 b3 a b m p=some (b0,b1,b2,b3,a',b,m,p')∧tA n a p l a' p':=by
 obtain ⟨s, h1, h2⟩ := yS (L := fun c i (s : List qY × EQ) => D3 k c l i b0 b1 b2 b3 s.1 b m s.2) (N := n) (fun s => (b0, b1, b2, b3, s.1, b, m, s.2)) (fun i s => Vd n a p l i s.1 s.2) (fun c s hs=>by
   show D4 k _ l n b0 b1 b2 b3 s.1 b m s.2=_;unfold D4;simp only [qU, hs.al, ab (Nat.lt_irrefl _), an]) (fun c i s hi hs=>by
   have hai:=hs.rest i hi (by simp);have hr:=hx.res i hi;have hsp:=Ay hl i;obtain⟨a',p',h1,h2⟩:=vG4 (a0:=s.1.set i ((s.1.getD i ad).1,((s.1.getD i ad).2.1,wX (s.1.getD i ad).2.2 (zP (gR i) l)))) (p0:=s.2) hk bL hn hx hl hi b0 b1 b2 b3 b m ⟨by rw[List.length_set];exact hs.al,fun x jh wb=>by
     rw[fj,if_neg (by grind)];exact hs.done x jh wb,by
     rw[fj,if_pos ⟨rfl,by rw[hs.al];exact hi⟩,hai];show _=((a.getD i ad).1-0,_,_);simp,fun x jh wb=>by
     rw[fj,if_neg (by grind)];exact hs.rest x jh (by omega),hs.pl,hs.pr,fun x jh y I7=>by
     rw[hs.cell x jh y I7];omega⟩
   refine⟨(a',p'),?_,?_⟩
   ·show D4 k _ l i b0 b1 b2 b3 s.1 b m s.2=_;unfold D4;have hK:=yM9 k (s.1.getD i ad).1 (s.1.getD i ad).2.1 (s.1.getD i ad).2.2 (zP (gR i) l) (by grind) (by grind) hsp.1;simp only[qC,qU,aq,hs.al,aa hi,aj,vEa bL hl,ae];rw[hK];simp only[ae];rw[h1];simp only[ae,qE hi (by grind)]
   ·refine⟨h2.al,fun x jh wb=>?_,fun x jh wb=>h2.rest x jh (by omega),h2.pl,h2.pr,fun x jh y I7=>?_⟩
    ·by_cases h:x<i
     ·exact h2.done x jh h
     ·have:x=i:=by omega
      subst this;rw[h2.here,yCd hl.1 x jh];simp
    ·rw[h2.cell x jh y I7];omega) (s:=(a,p)) hk ⟨hx.al,by simp,by simp,hx.pl,hx.pr,by simp⟩
 exact⟨s.1,s.2,h1,h2.al,fun i hi=>h2.done i hi hi,h2.pl,h2.pr,fun i hi j hj=>by rw[h2.cell i hi j hj,if_pos hi]⟩
def rH (a:List qY)(b:EQ)(m:AC)(p:EQ)(l:List zH)(r:List qY×EQ×AC×EQ×Int):Prop:=
 (vY a.length l→∃a' p',tA a.length a p l a' p'∧r=(bif mr a' b m p' then(a',b,m,p',0) else(a,b,m,p,8)))∧(¬vY a.length l→r=(a,b,m,p,1))
theorem NG {k}(hk:100<k){a b m p}{l:List zH}(h:wM a b m p)(hl:l.length≤80):∃r,pw k a b m p l=some r∧rH a b m p l r:=by
 unfold pw rH;have e:decide (((l.length:Nat):Int)>64)=decide (¬l.length≤64):=by
  grind
 rw[e];by_cases bU:l.length≤64
 case neg=>
  rw[aa bU];exact⟨_,rfl,fun e=>absurd e.2 bU,by simp⟩
 rw[ab (by omega),vKp (by omega) (by omega)];cases hm:ni a.length l with
 |false=>
  refine⟨_,rfl,fun e=>?_,by simp⟩;rw[Ax.2 e.1] at hm;cases hm
 |true=>
  have aR:vY a.length l:=⟨Ax.1 hm,bU⟩;simp only[IU (show 10<k by omega) h.toSized,ae];obtain⟨a',p',h1,h2⟩:=vDo (b:=b) (m:=m) (show l.length<k by omega) h.nums aR a b m p;rw[h1];simp only[ae,yVw (show 10<k by omega)];cases hB:mr a' b m p' with
  |true=>exact⟨_,rfl,by grind,by grind⟩
  |false=>exact⟨_,rfl,by grind,by grind⟩
theorem Vf {k}(hk:100<k){a b m p}{l:List zH}(h:wM a b m p)(hl:l.length≤80):∃r,Az k a b m p l=some r∧rH a b m p l r:=by
 unfold Az rH;rw[yHd (by omega) (by omega)];cases hm:ni a.length l with
 |false=>
  refine⟨_,rfl,fun e=>?_,by simp⟩;rw[Ax.2 e.1] at hm;cases hm
 |true=>
  by_cases bU:l.length≤64
  case neg=>
   rw[ab bU];exact⟨_,rfl,fun e=>absurd e.2 bU,by simp⟩
  have aR:vY a.length l:=⟨Ax.1 hm,bU⟩;have h6:=h.n6;rw[aa bU];simp only[IT (show 10<k by omega) h.toSized,ae];obtain⟨a',p',h1,h2⟩:=vEy (b:=b) (m:=m) (show a.length<k by omega) (by grind) (by omega) h.nums aR a b m p;rw[h1];simp only[ae,vFq (show 10<k by omega)];cases hB:mr a' b m p' with
  |true=>exact⟨_,rfl,by grind,by grind⟩
  |false=>exact⟨_,rfl,by grind,by grind⟩
theorem rH.same {a b m p l r r'}(h:rH a b m p l r)(h':rH a b m p l r'):r=r':=by
 by_cases c:vY a.length l
 ·obtain⟨a1,p1,x,rfl⟩:=h.1 c;obtain⟨a2,p2,y,rfl⟩:=h'.1 c;obtain⟨rfl,rfl⟩:=x.same y;rfl
 ·rw[h.2 c,h'.2 c]
theorem Vg {k n i p}(hk:n<k)(hn:n≤100)(hi:i<n)(hp:p.length=n)(hr:(p.getD i []).length=n)(hb:∀j,-72057594037927936≤cell p i j∧cell p i j≤72057594037927936)(a:List qY) b m:
  NH k a b m p i=some (qI (cell p i) n):=by
 obtain ⟨s, h1, h2⟩ := yS (L := fun c j (s : Int) => D5 k c i s j a b m p) (N := n) (fun s => s) (fun j s => s = qI (cell p i) j) (fun c s hs=>by
   show D6 k _ i s n a b m p=_;unfold D6;simp only [qC, qU, aq, hp, hr, aa hi, ab (Nat.lt_irrefl _), an, aj]) (fun c j s hj hs=>by
   refine⟨qI (cell p i) (j+1),?_,rfl⟩;show D6 k _ i s j a b m p=_;have h1:=vq hb j;have h2:=hb j;unfold D6;simp only[qC,qE hj (by grind),qU,aq,hp,hr,aa hi,aa hj];show D5 k c i (zA (s+cell p i j)) _ a b m p=_;rw[hs,zO (by omega) (by omega)];rfl) (s:=0) hk rfl
 unfold NH;simp_all
theorem NI {a b m p}(hb:wM a b m p){i}(hi:i<a.length) j:-72057594037927936≤cell p i j∧cell p i j≤72057594037927936:=by
 by_cases hj:j<a.length
 ·have:=hb.net i hi j hj;simp[gx] at this;omega
 ·have:cell p i j=0:=by
   unfold cell;rw[List.getD_eq_getElem?_getD,List.getElem?_eq_none]
   ·rfl
   ·rw[hb.pr i hi];omega
  omega
theorem NJ {S X:Type}{L:Nat→Int→S→Option X}{N} ok (e:S→X) b (inv:Nat→S→Prop)(bK:∀n s,inv N s→L (n+1) (N:Int) s=some (e s))
  (aK:∀n i s,i<N→inv i s→(ok i=true→∃s',L (n+1) (i:Int) s=L n ((i+1:Nat):Int) s'∧inv (i+1) s')∧(ok i=false→L (n+1) (i:Int) s=some b)):
  ∀c i n s,i+c=N→c<n→inv i s→(qG ok c i=true∧∃s',L n (i:Int) s=some (e s')∧inv N s')∨(qG ok c i=false∧L n (i:Int) s=some b)
 |0,i,n,s,h,hn,hs=>by
  obtain⟨n,rfl⟩:∃m,n=m+1:=⟨n-1,by omega⟩;have:i=N:=by omega
  subst this;exact .inl ⟨rfl,s,bK n s hs,hs⟩
 |c+1,i,n,s,h,hn,hs=>by
  obtain⟨n,rfl⟩:∃m,n=m+1:=⟨n-1,by omega⟩;obtain⟨h1,h2⟩:=aK n i s (by omega) hs;unfold qG;cases ho:ok i with
  |true=>
   obtain⟨s',h3,h4⟩:=h1 ho;rw[h3];exact NJ ok e b inv bK aK c (i+1) n s' (by omega) (by omega) h4
  |false=>simp_all
def dS (l:List zH)(i j:Nat):Int:=zP (gS i j) l-zP (gS j i) l
def tB (b p:EQ)(l:List zH)(i j:Nat):Bool:= !(decide (zP (gS i j) l>0)&&(!decide (cell b i j= -1)&&decide (cell p i j+dS l i j>cell b i j)))
def gz (a:List qY)(b:EQ)(m:AC)(p:EQ)(l:List zH)(i:Nat):Bool:=
 !decide (zP (gN i) l + zP (gR i) l = 0) && (!qG (tB b p l i) a.length 0 || (decide ((a.getD i ad).1+(a.getD i ad).2.1+zP (gB i) l<0)||
  ((decide (zP (gN i) l>0)&&decide ((a.getD i ad).1+(a.getD i ad).2.1+zP (gB i) l<wX (a.getD i ad).2.2 (zP (gR i) l)))||
   (!decide (m.getD i 0= -1)&&decide (qI (cell p i) a.length-zP (gB i) l>m.getD i 0)))))
theorem D7 {n l}(hl:vY n l) i j:-70368744177664≤dS l i j∧dS l i j≤70368744177664:=by
 have h1:=tz hl i j;have h2:=tz hl j i;unfold dS;omega
theorem vV9 {k:Nat}{a:List qY}{b:EQ}{m:AC}{p:EQ}{l:List zH}(hk:100<k)(hb:wM a b m p)(hl:vY a.length l){i:Nat}(hi:i<a.length)(x y n0 dL:Int)
  (CG:-6917529027641081856≤n0∧n0≤6917529027641081856) (pv:-576460752303423488≤dL∧dL≤576460752303423488):
  rI k k l i x y n0 dL 0 a b m p=some (bif qG (tB b p l i) a.length 0 then .inl ((i:Int),x,y,n0-qI (dS l i) a.length,dL+qI (dS l i) a.length,a,b,m,p) else .inr true):=by
 have h6:=hb.n6;have bL:l.length<k:=by have:=hl.2;omega
 have := NJ (L := fun c j (s : Int × Int) => rI k c l i x y s.1 s.2 j a b m p) (N := a.length) (tB b p l i) (fun s => .inl ((i : Int), x, y, s.1, s.2, a, b, m, p)) (.inr true) (fun j s => s = (n0 - qI (dS l i) j, dL + qI (dS l i) j)) (fun c s hs=>by
   show D8 k _ l i x y s.1 s.2 a.length a b m p=_;unfold D8;simp only [qU, ab (Nat.lt_irrefl _), an]) (fun c j s hj hs=>by
   have CI:=vq (fun j=>D7 hl i j) j;have C5:=D7 hl i j;have hj1:(j:Int)*70368744177664≤6*70368744177664:=by omega
   have pv:=hb.nums.net i hi j hj;have e1:rI k (c+1) l i x y s.1 s.2 j a b m p=bif tB b p l i j then rI k c l i x y (n0-qI (dS l i) (j+1)) (dL+qI (dS l i) (j+1)) ((j+1:Nat):Int) a b m p else some (.inr true):=by
    show D8 k _ l i x y s.1 s.2 j a b m p=_;unfold D8;simp only[qC,qE hj (show a.length<9223372036854775808 by omega),qU,aq,aa hi,aa hj,aj,Vc bL hl,ae,hb.bl,hb.br i hi,hb.pl,hb.pr i hi];have ed:zA (zP (gS i j) l-zP (gS j i) l)=dS l i j:=zO (by have:=C5.1;unfold dS at this;omega) (by have:=C5.2;unfold dS at this;omega);rw[ed];have e2:zA (s.1-dS l i j)=n0-qI (dS l i) (j+1):=by
     rw[hs];show zA (n0-qI (dS l i) j-dS l i j)=n0-(qI (dS l i) j+dS l i j);rw[zO (by omega) (by omega)];omega
    have e3:zA (s.2+dS l i j)=dL+qI (dS l i) (j+1):=by
     rw[hs];show zA (dL+qI (dS l i) j+dS l i j)=dL+(qI (dS l i) j+dS l i j);rw[zO (by omega) (by omega)];omega
    rw[e2,e3];show(bif decide (zP (gS i j) l>0) then(bif !decide (cell b i j= -1) then(bif decide (zA (cell p i j+dS l i j)>cell b i j) then _ else _) else _) else _)=_;rw[zO (x:=cell p i j+dS l i j) (by omega) (by omega)];unfold tB;cases decide (zP (gS i j) l>0)<;>cases decide (cell b i j= -1)<;>cases decide (cell p i j+dS l i j>cell b i j)<;>rfl
   refine⟨fun ho=>⟨_,?_,rfl⟩,fun ho=>?_⟩
   ·rw[e1,ho];rfl
   ·rw [e1, ho]; rfl) a.length 0 k (n0, dL) (by omega) (by omega) (by
    show(n0,dL)=(n0-0,dL+0);rw[Int.sub_zero,Int.add_zero])
 rcases this with⟨h1,s,h2,h3⟩|⟨h1,h2⟩
 ·have NK:rI k k l i x y n0 dL 0 a b m p=_:=h2;rw[NK,h1,h3];rfl
 ·have NK:rI k k l i x y n0 dL 0 a b m p=_:=h2;rw[NK,h1];rfl
theorem yZv {n l}(hl:∀p∈l,yH n p) i (hi:i<n):qI (dS l i) n= -zP (gB i) l:=yCd hl i hi
theorem yGg {k a b m p l}(hk:100<k)(hb:wM a b m p)(hl:vY a.length l){i}(hi:i<a.length):NL k a b m p l i=some (gz a b m p l i):=by
 have h6:=hb.n6;have bL:l.length<k:=by have:=hl.2;omega
 have hN:=yF1 hl i;have hR:=Ay hl i;have hx:=hb.acct i hi;simp only[fk,bb,aY] at hx;have AA:-4611686018427387904<(a.getD i ad).1∧(a.getD i ad).1<4611686018427387904∧0≤(a.getD i ad).2.1∧(a.getD i ad).2.1≤2305843009213693952∧0≤(a.getD i ad).2.2∧(a.getD i ad).2.2≤2305843009213693952:=by grind
 have pv:=vq (NI hb hi) a.length;unfold NL;rw[yTh bL hl];simp only[ae];rw[zO (x:=zP (gN i) l+zP (gR i) l) (by omega) (by omega)];unfold gz;cases hz:decide (zP (gN i) l+zP (gR i) l=0) with
 |true=>rfl
 |false=>
  rw[qC,aa hi];simp only[aq];rw[Vg (by omega) (by omega) hi hb.pl (hb.pr i hi) (NI hb hi)];simp only[ae];rw[zO (x:=(a.getD i (0,(0,0))).1+(a.getD i (0,(0,0))).2.1) (by omega) (by omega)];rw[vV9 hk hb hl hi _ _ _ _ (by omega) (by omega),yZv hl.1 i hi];cases qG (tB b p l i) a.length 0 with
  |false=>rfl
  |true=>
   have hK:=yM9 k (a.getD i ad).1 (a.getD i ad).2.1 (a.getD i ad).2.2 (zP (gR i) l) (by omega) (by omega) hR.1;simp[qC,hb.ml];grind
theorem vMf {k:Nat}{a:List qY}{b:EQ}{m:AC}{p:EQ}{l:List zH}(hk:100<k)(hb:wM a b m p)(hl:vY a.length l):∃r,tC k a b m p l=some r∧(r=[]↔qG (fun i=> !gz a b m p l i) a.length 0=true):=by
 have h6:=hb.n6;obtain ⟨r, h1, h2⟩ := yS (L := fun c i (r : AC) => tD k c l i a b m p r) (N := a.length) (fun r => r) (fun i r => (r = [] ↔ ∀ j, j < i → gz a b m p l j = false) ∧ r.length ≤ i) (fun c r hr=>by
   show rJ k _ l a.length a b m p r=_;unfold rJ;simp only [qU, ab (Nat.lt_irrefl _), an]) (fun c i r hi hr=>by
   have aQ:zN (r.length+1) 8=true:=qH (by omega) (by omega);have e:tD k (c+1) l i a b m p r=tD k c l ((i+1:Nat):Int) a b m p (bif gz a b m p l i then r++[(i:Int)] else r):=by
    show rJ k _ l i a b m p r=_;unfold rJ;simp only[qE hi (show a.length<9223372036854775808 by omega),qU,aa hi,aj,yGg hk hb hl hi,ae,aQ];cases gz a b m p l i<;>rfl
   refine⟨_,e,?_⟩;cases hs:gz a b m p l i with
   |true=>
    refine⟨⟨fun h=>?_,fun h=>?_⟩,by simp only[aj,List.length_append,List.length_cons,List.length_nil];omega⟩
    ·simp at h
    ·rw[h i (Nat.lt_succ_self i)] at hs;cases hs
   |false=>
    refine⟨⟨fun h j hj=>?_,fun h=>?_⟩,by simp only[an];omega⟩
    ·by_cases c:j=i
     ·subst c;exact hs
     ·exact hr.1.1 h j (by omega)
    ·exact hr.1.2 fun j hj=>h j (by omega)) (s:=[]) (show a.length<k by omega) ⟨⟨fun _ j hj=>absurd hj (Nat.not_lt_zero j),fun _=>rfl⟩,Nat.le_refl 0⟩
 unfold tC;rw[h1];refine⟨r,rfl,h2.1.trans ?_⟩;rw[gw];exact⟨fun h j hj=>by rw[h j hj];rfl,fun h j hj=>by have:=h j hj;simpa using this⟩
def wc (a:List qY)(b:EQ)(m:AC)(p:EQ)(l:List zH):Bool:=(ni a.length l&&decide (l.length≤64))&&qG (fun i=> !gz a b m p l i) a.length 0
theorem vNk {k a b m p}{l:List zH}(hk:100<k)(hb:wM a b m p)(hl:l.length≤80):I8 k a b m p l=some (wc a b m p l):=by
 unfold I8 wc;rw[yHd (by omega) (by omega)];cases hm:(ni a.length l&&decide (l.length≤64)) with
 |false=>rfl
 |true=>
  simp  at hm;obtain⟨r,h1,h2⟩:=vMf hk hb ⟨Ax.1 hm.1,hm.2⟩;simp_all
theorem vWu {k n i p}(hk:n<k)(hn:n≤100)(hi:i<n)(hp:p.length=n)(hr:(p.getD i []).length=n)(hb:∀j,-72057594037927936≤cell p i j∧cell p i j≤72057594037927936)(a:List qY) b m:
  NM k a b m p i=some (qI (cell p i) n):=by
 obtain ⟨s, h1, h2⟩ := yS (L := fun c j (s : Int) => D9 k c s (p.getD i []) n j) (N := n) (fun s => s) (fun j s => s = qI (cell p i) j) (fun c s hs=>by
   show Ea k _ s (p.getD i []) n n=_;unfold Ea;simp) (fun c j s hj hs=>by
   refine⟨qI (cell p i) (j+1),?_,rfl⟩;show Ea k _ s (p.getD i []) n j=_;have h1:=vq hb j;have h2:=hb j;unfold Ea;simp only[qC,qE hj (by grind),qU,hr,aa hj];show D9 k c (zA (s+cell p i j)) _ _ _=_;rw[hs,zO (by omega) (by omega)];rfl) (s:=0) hk rfl
 unfold NM;simp[qC];simp_all
theorem vBr k {n:Nat}(hn:n≤6):I9 k n=some true:=by
 unfold I9;grind
theorem yDp {α:Type}(v z:α) n i (hi:i<n):(List.replicate i v++List.replicate (n-i) z).set i v=List.replicate (i+1) v++List.replicate (n-(i+1)) z:=by
 have e:List.replicate (n-i) z=z::List.replicate (n-(i+1)) z:=by
  rw[show n-i=(n-(i+1))+1 by omega];rfl
 rw[List.set_append_right _ _ (by simp),List.length_replicate,Nat.sub_self,e];simp[List.replicate_succ']
theorem yFz {k n}(hk:n<k)(hn:n≤6) v:AB k n v=some (List.replicate n v):=by
 unfold AB;rw[vBr k hn];obtain ⟨s, h1, h2⟩ := yS (L := fun c i (s : AC) => Ja k c v n i s) (N := n) (fun s => s) (fun i s => s = List.replicate i v ++ List.replicate (n - i) 0) (fun c s hs=>by
   show Eb k _ v n n s=_;unfold Eb;simp) (fun c i s hi hs=>by
   refine⟨_,?_,rfl⟩;show Eb k _ v n i s=_;have hl:s.length=n:=by grind
   unfold Eb;simp[qC,qE hi (by grind),aa hi,hl];rw[hs,yDp v 0 n i hi]) (s:=List.replicate n 0) hk (by simp)
 grind
theorem Vh {k n}(hk:n<k)(hn:n≤6) v:Ec k n v=some (List.replicate n (List.replicate n v)):=by
 unfold Ec;rw[vBr k hn];obtain ⟨s, h1, h2⟩ := yS (L := fun c i (s : EQ) => Jb k c n v n i s) (N := n) (fun s => s) (fun i s => s = List.replicate i (List.replicate n v) ++ List.replicate (n - i) []) (fun c s hs=>by
   show Ed k _ n v n n s=_;unfold Ed;simp) (fun c i s hi hs=>by
   refine⟨_,?_,rfl⟩;show Ed k _ n v n i s=_;have hl:s.length=n:=by grind
   unfold Ed;simp[qC,qE hi (by grind),aa hi,hl,yFz hk hn];rw[hs,yDp (List.replicate n v) [] n i hi]) (s:=List.replicate n []) hk (by simp)
 grind
def tE (a:List qY)(b:EQ)(m:AC)(p:EQ)(l:List zH):AC:=((List.range a.length).filter fun i=>gz a b m p l i).map fun(i:Nat)=>(i:Int)
structure NN (n:Nat) (l:List zH) (r2 r3:AC) (m4:EQ):Prop where
 l2:r2.length=n
 l3:r3.length=n
 l4:m4.length=n
 r4:∀i,i<n→(m4.getD i []).length=n
 more:∀i,i<n→r2.getD i 0=zP (gB i) l
 spent:∀i,i<n→r3.getD i 0=zP (gR i) l
 sent:∀i,i<n→∀j,j<n→cell m4 i j=dS l i j
def Jc (p:zH)(r:AC):AC:=
 let y0:=r.set p.2.1.toNat (zA (r.getD p.2.1.toNat 0-p.2.2.2.1))
 y0.set p.2.2.1.toNat (zA (y0.getD p.2.2.1.toNat 0+p.2.2.2.1))
def Jd (p:zH)(r:AC):AC:=bif !decide (p.2.2.2.2.1=3) then r.set p.2.1.toNat (zA (r.getD p.2.1.toNat 0+p.2.2.2.1)) else r
theorem vK8 {n p}(h:yH n p){r}(hr:r.length=n){i}(hi:i<n)(hb:∀i,i<n→-4611826755915743232<r.getD i 0∧r.getD i 0<4611826755915743232):(Jc p r).getD i 0=r.getD i 0+gB i p:=by
 obtain⟨f0,f1,t0,t1,ne,a1,a2,c1,c3⟩:=h;obtain⟨f,hf⟩:∃f:Nat,p.2.1=f:=⟨p.2.1.toNat,by omega⟩;obtain⟨t,ht⟩:∃t:Nat,p.2.2.1=t:=⟨p.2.2.1.toNat,by omega⟩;have NA:f≠t:=by omega
 have gZ:f<n:=by omega
 have gy:t<n:=by omega
 unfold Jc gB;simp only[hf,ht,aq];have b1:=hb f gZ;have b2:=hb t gy;have key:∀x,(r.set f (zA (r.getD f 0-p.2.2.2.1))).getD x 0=if f=x then zA (r.getD f 0-p.2.2.2.1) else r.getD x 0:=by grind
 rw[fj,List.length_set,key t,if_neg NA,key i];by_cases h1:t=i
 ·subst h1;rw[if_pos (by grind),if_pos rfl,if_neg (by omega),zO (by omega) (by omega)];omega
 ·rw[if_neg (by grind),if_neg (c:=((t:Int)=i)) (by omega)];by_cases h2:f=i
  ·subst h2;rw[if_pos rfl,if_pos rfl,zO (by omega) (by omega)];omega
  omega
theorem vNc {n p}(h:yH n p){r}(hr:r.length=n){i}(hi:i<n)(hb:∀i,i<n→-4611826755915743232<r.getD i 0∧r.getD i 0<4611826755915743232):(Jd p r).getD i 0=r.getD i 0+gR i p:=by
 obtain⟨f0,f1,t0,t1,ne,a1,a2,c1,c3⟩:=h;obtain⟨f,hf⟩:∃f:Nat,p.2.1=f:=⟨p.2.1.toNat,by omega⟩;have gZ:f<n:=by omega
 have b1:=hb f gZ;unfold Jd gR;simp only[hf,aq];by_cases hc:p.2.2.2.2.1=3
 ·simp_all
 ·rw[ab hc];simp only[cp,aj];rw[fj];by_cases h2:f=i
  ·subst h2;rw[if_pos (by grind),if_pos (by grind),zO (by omega) (by omega)]
  omega
theorem Vi l p i j:dS (l++[p]) i j=dS l i j+gS i j p-gS j i p:=by
 unfold dS;rw[lD,lD];dsimp only[zP];omega
theorem NO {α:Type} n i (v d:α)(h:i<n):(List.replicate n v).getD i d=v:=by
 simp_all
theorem Vj {k n l}(hk:100<k)(hn:n≤6)(hl:vY n l):∃r2 r3 m4,NP k n l=some (r2,r3,m4)∧NN n l r2 r3 m4:=by
 have nj:=hl.2;have := yS (L := fun c i (s : AC × AC × EQ) => Je k c l l.length i s.1 s.2.1 s.2.2) (N := l.length) (fun s => s) (fun i s => NN n (l.take i) s.1 s.2.1 s.2.2) (fun c s hs=>by
   show Ee k _ l l.length l.length s.1 s.2.1 s.2.2=_;unfold Ee;simp) (fun c i s hi hs=>by
   have bN:yH n (l.getD i pd):=hl.1 _ (jQ hi);refine⟨(Jc (l.getD i pd) s.1,Jd (l.getD i pd) s.2.1,vz (l.getD i pd) s.2.2),?_,?_⟩
   ·show Ee k _ l l.length i s.1 s.2.1 s.2.2=_;unfold Ee Jc Jd vz;simp only[qC,qE hi (by grind),qU,aq,aa hi,aj];obtain⟨f0,f1,t0,t1,ne,a1,a2,c1,c3⟩:=bN;obtain⟨f,hf⟩:∃f:Nat,(l.getD i pd).2.1=f:=⟨(l.getD i pd).2.1.toNat,by omega⟩;obtain⟨t,ht⟩:∃t:Nat,(l.getD i pd).2.2.1=t:=⟨(l.getD i pd).2.2.1.toNat,by omega⟩;have gZ:f<n:=by omega
    have gy:t<n:=by omega
    have r1:=Nz (x:=zA ((s.2.2.getD f []).getD t 0+(l.getD i pd).2.2.2.1)) (t:=t) hs.l4 hs.r4 gZ;simp only[hf,ht,aq,qC,hs.l2,hs.l3,hs.l4,List.length_set,hs.r4 f gZ,r1 t gy,aa gZ,aa gy,aj];grind
   ·have aR:=hl.take i;have hp := vAt bN hs.l4 hs.r4 (fun i' bG j' l9=>by
     rw[hs.sent i' bG j' l9];have:=D7 aR i' j';omega)
    have hbM:∀i',i'<n→-4611826755915743232<s.1.getD i' 0∧s.1.getD i' 0<4611826755915743232:=fun i' bG=>by
     rw[hs.more i' bG];have:=U9 aR i';omega
    have hbS:∀i',i'<n→-4611826755915743232<s.2.1.getD i' 0∧s.2.1.getD i' 0<4611826755915743232:=fun i' bG=>by
     rw[hs.spent i' bG];have:=Ay aR i';omega
    refine⟨by unfold Jc;simp[hs.l2],by unfold Jd;cases decide ((l.getD i pd).2.2.2.2.1=3)<;>simp[hs.l3],hp.1,hp.2.1,fun i' bG=>?_,fun i' bG=>?_,fun i' bG j' l9=>?_⟩
    ·rw[vK8 bN hs.l2 bG hbM,hs.more i' bG,←jW l i pd hi,lD];dsimp only[zP];omega
    ·rw[vNc bN hs.l3 bG hbS,hs.spent i' bG,←jW l i pd hi,lD];dsimp only[zP];omega
    ·rw[hp.2.2 i' bG j' l9,hs.sent i' bG j' l9,←jW l i pd hi,Vi]) (n:=k) (s:=(List.replicate n 0,List.replicate n 0,List.replicate n (List.replicate n 0))) (by omega) ⟨by simp,by simp,by simp,by grind,fun i hi=>by rw[NO n i _ _ hi];rfl,fun i hi=>by rw[NO n i _ _ hi];rfl,fun i hi j hj=>by
    unfold cell;rw[NO n i _ _ hi,NO n j _ _ hj];rfl⟩
 obtain⟨s,h1,h2⟩:=this;rw[List.take_of_length_le (Nat.le_refl _)] at h2;refine⟨s.1,s.2.1,s.2.2,?_,h2⟩;unfold NP;rw[yFz (by omega) hn,Vh (by omega) hn];simp_all
theorem Vk {k}{l:List zH}(hk:l.length<k)(hl:l.length<9223372036854775808) i:NQ k l i=some (!qG (fun x=> !decide ((l.getD x pd).2.1=i)) l.length 0):=by
 obtain ⟨x, h1, h2⟩ := vn (L := fun c x => Jf k c l l.length x i) (N := l.length) (fun x => decide ((l.getD x pd).2.1 = i)) (fun c=>by
   show Ef k _ l l.length l.length i=_;unfold Ef;simp) (fun c x hx=>by
   show Ef k _ l l.length x i=_;unfold Ef Vl;simp[qC,qE hx hl,aa hx]) hk
 unfold NQ Vm;grind
theorem yM7 {n:Nat}{l:List zH}(hl:∀p∈l,yH n p)(i:Nat):qG (fun x=> !decide ((l.getD x pd).2.1=i)) l.length 0=decide (zP (gN i) l+zP (gR i) l=0):=by
 have hN:=vp (g:=gN i) (l:=l) fun p hp=>(NC (hl p hp) i).1
 have hR:=vp (g:=gR i) (l:=l) fun p hp=>(Nx (hl p hp) i).1
 have e:zP (gN i) l+zP (gR i) l=zP (fun p:zH=>if p.2.1=(i:Int) then p.2.2.2.1 else 0) l:=by
  rw[←yC4];refine M6 fun p hp=>?_
  unfold gN gR;omega
 rw[e];have h:∀(l:List zH),(∀p∈l,yH n p)→((∀p∈l,¬p.2.1=i)↔zP (fun p:zH=>if p.2.1=(i:Int) then p.2.2.2.1 else 0) l=0):=by
  intro l
  induction l with
  |nil=>intro _;simp[zP]
  |cons q l ih=>
   intro hm;have ih:=ih (by grind);have hq:=hm q (by simp);have h0:0≤zP (fun p:zH=>if p.2.1=i then p.2.2.2.1 else 0) l:=vp fun p hp=>by
    have:=(hm p (by grind)).a1;omega
   unfold zP;by_cases c:q.2.1=i
   ·rw[if_pos c];have:=hq.a1;grind
   simp_all
 have bg:(∀p∈l,¬p.2.1=i)↔qG (fun x=> !decide ((l.getD x pd).2.1=i)) l.length 0=true:=by
  rw[gw];constructor
  ·intro h j hj
   simpa using h _ (jQ hj)
  ·intro h p hp;obtain⟨j,hj,rfl⟩:=List.getElem_of_mem hp;have:=h j hj
   simpa[List.getD,hj] using this
 simp_all
def Eg (n Jg:Int):Bool:= !decide (Jg= -1)&&decide (n>Jg)
theorem yBu k n Jg:Eh k n Jg=some (Eg n Jg):=by
 unfold Eh Eg;grind
theorem Vn k b c r s (h:-9223372036854775808≤r-s)(h':r<9223372036854775808)(hs:0≤s):v9 k b c r s=some (wX r s):=by
 unfold v9 wX wU;rw[zO h (by omega),an];grind
def AE (b p:EQ)(l:List zH)(i:Nat)(short:Bool)(q:zH):Bool:=
 decide (q.2.1=i)&&((decide (q.2.2.2.2.1=3)&&short)||Eg (cell p i q.2.2.1.toNat+dS l i q.2.2.1.toNat) (cell b i q.2.2.1.toNat))
theorem vLv {k a b m p l}(hk:100<k)(hb:wM a b m p)(hl:vY a.length l){r2 r3 m4}(hm:NN a.length l r2 r3 m4){i}(hi:i<a.length) bal cr res n0 (kj:0≤res∧res≤2305843009213693952):
  NR k l i bal cr res r2 r3 m4 n0 a b m p=some (!qG (fun x=> !AE b p l i (decide (n0<wX res (zP (gR i) l))) (l.getD x pd)) l.length 0):=by
 have nj:=hl.2;have hR:=Ay hl i;obtain ⟨x, h1, h2⟩ := vn (L := fun c x => Jh k c l l.length x i bal cr res r2 r3 m4 n0 a b m p) (N := l.length) (fun x => AE b p l i (decide (n0 < wX res (zP (gR i) l))) (l.getD x pd)) (fun c=>by
   show Ei k _ l l.length l.length i bal cr res r2 r3 m4 n0 a b m p=_;unfold Ei;simp) (fun c x hx=>by
   show Ei k _ l l.length x i bal cr res r2 r3 m4 n0 a b m p=_;have bN:yH a.length (l.getD x pd):=hl.1 _ (by grind);unfold Ei;simp only[qC,qE hx (by grind),qU,aq,aa hx];generalize l.getD x (0,(0,(0,(0,(0,(0,0))))))=q at bN⊢;obtain⟨id,f,t,am,cl,st,ti⟩:=q;obtain⟨f0,f1,t0,t1,ne,a1,a2,c1,c3⟩:=bN;dsimp only at f0 f1 t0 t1 ne a1 a2 c1 c3⊢;obtain⟨t,rfl⟩:∃y:Nat,t=y:=⟨t.toNat,by omega⟩;have gy:t<a.length:=by omega
   unfold Vo AE;cases hf:decide (f=(i:Int)) with
   |false=>simp
   |true=>
    have e1:(r3.getD i 0)=zP (gR i) l:=hm.spent i hi;have e2:(m4.getD i []).getD t 0=dS l i t:=hm.sent i hi t gy;have pv:=hb.nums.net i hi t gy;have hd:=D7 hl i t;have e3:zA ((p.getD i []).getD t 0+dS l i t)=cell p i t+dS l i t:=zO (by show _≤cell p i t+dS l i t;omega) (by show cell p i t+dS l i t<_;omega);simp only[qC,hm.l3,hm.l4,hm.r4 i hi,hb.pl,hb.pr i hi,hb.bl,hb.br i hi,aa hi,aa gy,aq,e1,e2,e3,Vn k bal cr res (zP (gR i) l) (by omega) (by omega) hR.1,ae,yBu];cases decide (cl=3)<;>cases decide (n0<wX res (zP (gR i) l))<;>rfl) (n:=k) (by omega)
 unfold NR Vp;grind
theorem Vq {α g}:∀{l:List α},(∀p∈l,0≤g p)→(0<zP g l↔∃p∈l,0<g p)
 |[],_=>by simp[zP]
 |q::l,h=>by
  have ih:=Vq (g:=g) (l:=l) (by grind);have h0:=vp (g:=g) (l:=l) (by grind);unfold zP;grind
theorem NS {N p}:qG p N 0=false↔∃j,j<N∧p j=false:=by
 constructor
 ·apply Classical.byContradiction;intro hn;have:qG p N 0=true:=gw.2 (by grind);simp_all
 ·rintro⟨j,hj,hp⟩
  cases h:qG p N 0 with
  |false=>rfl
  |true=>rw[gw.1 h j hj] at hp;cases hp
theorem Vr {a:List qY}{b p l}(hl:vY a.length l){i}(hi:i<a.length) short:
  (!qG (fun x=> !AE b p l i short (l.getD x pd)) l.length 0)=(!qG (tB b p l i) a.length 0||(decide (zP (gN i) l>0)&&short)):=by
 have hN:=Vq (g:=gN i) (l:=l) fun p hp=>(NC (hl.1 p hp) i).1
 have hS:=fun j=>Vq (g:=gS i j) (l:=l) fun p hp=>(U8 (hl.1 p hp) i j).1
 rw[Bool.eq_iff_iff];simp only[Bool.not_eq_true',Bool.or_eq_true,bb,aY];rw[NS,NS];constructor
 ·rintro⟨x,hx,hb⟩
  have bN:=hl.1 _ (jQ (d:=pd) hx);have aX:=jQ (d:=pd) hx;generalize l.getD x pd=q at hb bN aX;simp only[AE,Bool.not_eq_false',bb,Bool.or_eq_true,aY] at hb;obtain⟨hf,hb⟩:=hb;rcases hb with⟨hc,hs⟩|ho
  ·refine .inr ⟨hN.2 ⟨q,aX,?_⟩,hs⟩;unfold gN;rw[if_pos ⟨hf,hc⟩];have:=bN.a1;omega
  ·have h1:=bN.t0;have h2:=bN.t1;refine .inl ⟨q.2.2.1.toNat,by omega,?_⟩;unfold tB;have lh:zP (gS i q.2.2.1.toNat) l>0:=(hS _).2 ⟨q,aX,by
    unfold gS;rw[if_pos (by grind)];have:=bN.a1;omega⟩
   rw[aa lh];unfold Eg at ho;simp_all
 ·rintro(⟨j,hj,hb⟩|⟨hp,hs⟩)
  ·simp only[tB,Bool.not_eq_false',bb,aY] at hb;obtain⟨lh,ho⟩:=hb;obtain⟨q,hq,hg⟩:=(hS j).1 lh;obtain⟨x,hx,rfl⟩:=List.getElem_of_mem hq;refine⟨x,hx,?_⟩;have e:l.getD x pd=l[x]:=by simp[List.getD,hx]
   rw[e];unfold gS at hg;by_cases c:l[x].2.1=(i:Int)∧l[x].2.2.1=(j:Int)
   ·unfold AE Eg;simp_all
   ·rw[if_neg c] at hg;omega
  ·obtain⟨q,hq,hg⟩:=hN.1 hp;obtain⟨x,hx,rfl⟩:=List.getElem_of_mem hq;refine⟨x,hx,?_⟩;have e:l.getD x pd=l[x]:=by simp[List.getD,hx]
   rw[e];unfold gN at hg;by_cases c:l[x].2.1=(i:Int)∧l[x].2.2.2.2.1=3
   ·unfold AE;simp_all
   ·rw[if_neg c] at hg;omega
theorem vSq {k a b m p l}(hk:100<k)(hb:wM a b m p)(hl:vY a.length l){r2 r3 m4}(hm:NN a.length l r2 r3 m4){i}(hi:i<a.length)(hs:decide (zP (gN i) l+zP (gR i) l=0)=false):
  NT k r2 r3 m4 a b m p i l=some (gz a b m p l i):=by
 have h6:=hb.n6;have nj:=hl.2;have hB:=U9 hl i;have hx:=hb.acct i hi;simp only[fk,bb,aY] at hx;have AA:-4611686018427387904<(a.getD i ad).1∧(a.getD i ad).1<4611686018427387904∧0≤(a.getD i ad).2.1∧(a.getD i ad).2.1≤2305843009213693952∧0≤(a.getD i ad).2.2∧(a.getD i ad).2.2≤2305843009213693952:=by grind
 have pv:=vq (NI hb hi) a.length;have e1:r2.getD i 0=zP (gB i) l:=hm.more i hi;unfold NT;simp only[qC,aa hi,aj,aq,hm.l2,hm.l4,e1,hm.r4 i hi];rw[vWu (by omega) (by omega) hi hb.pl (hb.pr i hi) (NI hb hi)];rw[zO (x:=(a.getD i ad).1+(a.getD i ad).2.1) (by omega) (by omega),zO (x:=(a.getD i ad).1+(a.getD i ad).2.1+zP (gB i) l) (by omega) (by omega)];unfold gz;rw[hs];cases hn:decide ((a.getD i ad).1+(a.getD i ad).2.1+zP (gB i) l<0) with
 |true=>simp
 |false=>
  obtain ⟨s, q1, q2⟩ := yS (L := fun c j (s : Int) => AF k c l s (m4.getD i []) a.length j r2 r3 m4 a b m p i (a.getD i ad).1 (a.getD i ad).2.1 (a.getD i ad).2.2 ((a.getD i ad).1 + (a.getD i ad).2.1 + zP (gB i) l)) (N := a.length) (fun s => (l, s, r2, r3, m4, a, b, m, p, (i : Int), (a.getD i ad).1, (a.getD i ad).2.1, (a.getD i ad).2.2, (a.getD i ad).1 + (a.getD i ad).2.1 + zP (gB i) l)) (fun j s => s = qI (cell p i) a.length + qI (dS l i) j) (fun c s hs=>by
    show Ej k _ l s (m4.getD i []) a.length a.length r2 r3 m4 a b m p i (a.getD i ad).1 (a.getD i ad).2.1 (a.getD i ad).2.2 ((a.getD i ad).1+(a.getD i ad).2.1+zP (gB i) l)=_;unfold Ej;simp) (fun c j s hj hs=>by
    refine⟨qI (cell p i) a.length+qI (dS l i) (j+1),?_,rfl⟩;show Ej k _ l s (m4.getD i []) a.length j r2 r3 m4 a b m p i (a.getD i ad).1 (a.getD i ad).2.1 (a.getD i ad).2.2 ((a.getD i ad).1+(a.getD i ad).2.1+zP (gB i) l)=_;have e2:(m4.getD i []).getD j 0=dS l i j:=hm.sent i hi j hj;have CI:=vq (fun j=>D7 hl i j) j;have C5:=D7 hl i j;unfold Ej;simp only[qC,qE hj (by grind),qU,aq,hm.r4 i hi,aa hj,aj,e2];rw[hs,zO (x:=qI (cell p i) a.length+qI (dS l i) j+dS l i j) (by omega) (by omega),Int.add_assoc];rfl) (n:=k) (s:=qI (cell p i) a.length) (by omega) (by show _=_+0;omega)
  have q1':AF k k l (qI (cell p i) a.length) (m4.getD i []) a.length 0 r2 r3 m4 a b m p i (a.getD i ad).1 (a.getD i ad).2.1 (a.getD i ad).2.2 ((a.getD i ad).1+(a.getD i ad).2.1+zP (gB i) l)=_:=q1;simp only[an,ae];rw[show AF k k l (qI (cell p i) a.length) (m4.getD i []) a.length 0 r2 r3 m4 a b m p i (a.getD i (0,(0,0))).1 (a.getD i (0,(0,0))).2.1 (a.getD i (0,(0,0))).2.2 ((a.getD i ad).1+(a.getD i ad).2.1+zP (gB i) l)=_ from q1'];simp only[ae,qC,hb.ml,aa hi,aj,aq,yBu];rw[vLv hk hb hl hm hi _ _ _ _ (by grind),Vr hl hi,q2,yZv hl.1 i hi];have en:qI (cell p i) a.length+-zP (gB i) l=qI (cell p i) a.length-zP (gB i) l:=by omega
  rw[en];unfold Eg;grind
theorem yQk f i:((List.range (i+1)).filter f).map (fun(x:Nat)=>(x:Int))=(((List.range i).filter f).map fun(x:Nat)=>(x:Int))++(bif f i then[(i:Int)] else[]):=by
 rw[List.range_succ,List.filter_append,List.map_append];grind
theorem Vs {k a b m p l}(hk:100<k)(hb:wM a b m p)(hl:vY a.length l):AG k a b m p l=some (tE a b m p l):=by
 have h6:=hb.n6;have nj:=hl.2;obtain⟨r2,r3,m4,g1,hm⟩:=Vj hk h6 hl;obtain ⟨r, h1, h2⟩ := yS (L := fun c i (r : AC) => Ek k c l a.length i a b m p r2 r3 m4 r) (N := a.length) (fun r => r) (fun i r => r = ((List.range i).filter fun i => gz a b m p l i).map fun (x : Nat) => (x : Int)) (fun c r hr=>by
   show El k _ l a.length a.length a b m p r2 r3 m4 r=_;unfold El;simp) (fun c i r hi hr=>by
   have hle:r.length≤i:=by
    grind
   have aQ:zN (r.length+1) 8=true:=qH (by omega) (by omega);refine⟨_,?_,rfl⟩;show El k _ l a.length i a b m p r2 r3 m4 r=_;unfold El;simp only[qE hi (by grind),Vk (show l.length<k by omega) (by omega)];rw[yM7 hl.1,yQk,←hr];cases hz:decide (zP (gN i) l+zP (gR i) l=0) with
   |true=>
    have:gz a b m p l i=false:=by unfold gz;simp_all
    simp_all
   |false=>
    rw[vSq hk hb hl hm hi hz];grind) (n:=k) (s:=[]) (by omega) rfl
 unfold AG;rw[g1];simp;have fW:Ek k k l a.length 0 a b m p r2 r3 m4 []=some r:=h1;rw[fW,h2];rfl
theorem yCt {k a b m p l}(hk:100<k)(hb:wM a b m p)(hl:vY a.length l):tC k a b m p l=some (tE a b m p l):=by
 have h6:=hb.n6;obtain ⟨r, h1, h2⟩ := yS (L := fun c i (r : AC) => tD k c l i a b m p r) (N := a.length) (fun r => r) (fun i r => r = ((List.range i).filter fun i => gz a b m p l i).map fun (x : Nat) => (x : Int)) (fun c r hr=>by
   show rJ k _ l a.length a b m p r=_;unfold rJ;simp) (fun c i r hi hr=>by
   have hle:r.length≤i:=by
    grind
   have aQ:zN (r.length+1) 8=true:=qH (by omega) (by omega);refine⟨_,?_,rfl⟩;show rJ k _ l i a b m p r=_;unfold rJ;simp[qE hi (by grind),yGg hk hb hl hi];rw[yQk,←hr];grind) (s:=[]) (show a.length<k by omega) rfl
 unfold tC;have fW:tD k k l 0 a b m p []=some r:=h1;rw[fW,h2];rfl
theorem vS7 {a b m p l}:decide (((tE a b m p l).length:Int)=0)=qG (fun i=> !gz a b m p l i) a.length 0:=by
 unfold tE;cases h:qG (fun i=> !gz a b m p l i) a.length 0 with
 |true=>
  rw[gw] at h;simp_all
 |false=>
  apply ab;intro h0;obtain⟨j,hj,hs⟩:=NS.1 h;simp_all
theorem vWd {k}{l:List zH}(hk:l.length<k)(hl:l.length<9223372036854775808)(a:List qY) b m p:NU k l a b m p=some (!ni a.length l):=by
 obtain ⟨x, h1, h2⟩ := vn (L := fun c i => Ji k c l l.length i a b m p) (N := l.length) (fun i => !pt a.length (l.getD i pd)) (fun c=>by
  show Em k _ l l.length l.length a b m p=_;unfold Em;simp) (fun c i hi=>by
  show Em k _ l l.length i a b m p=_;unfold Em Vt;simp[qC,qE hi hl,aa hi,Nv]) hk
 unfold NU Vu;unfold ni;grind
theorem vXk {k a b m p}{l:List zH}(hk:100<k)(hb:wM a b m p)(hl:l.length≤80):AH k a b m p l=some (wc a b m p l):=by
 unfold AH wc;have e:decide ((l.length:Int)≤64)=decide (l.length≤64):=by
  grind
 rw[e,vWd (by omega) (by omega)];cases bU:decide (l.length≤64) with
 |false=>simp
 |true=>
  cases hm:ni a.length l with
  |false=>rfl
  |true=>
   have hr:vY a.length l:=⟨Ax.1 hm,by grind⟩;simp only[aj,ae,aE,cp,Vs hk hb hr,vS7,Bool.true_and]
def qN (l:List zH):Prop:=List.Pairwise (fun p q=>p.1≠q.1) l
theorem qN.filter {l}(h:qN l) f:qN (l.filter f):=List.Pairwise.filter f h
theorem AI {α:Type} f (l:List α) i d (h:i<l.length):(l.take (i+1)).filter f=(l.take i).filter f++(bif f (l.getD i d) then[l.getD i d] else[]):=by
 rw[←jW l i d h,List.filter_append];rfl
theorem Jj {α X:Type}(d:α){l:List α}{L:Nat→Int→List α→Option X}(f:α→Bool)(e:List α→X)(bK:∀n s,L (n+1) (l.length:Int) s=some (e s))
  (aK:∀n i s,i<l.length→s.length≤i→L (n+1) (i:Int) s=L n ((i+1:Nat):Int) (bif f (l.getD i d) then s++[l.getD i d] else s)) {n:Nat} (hn:l.length<n):
  L n 0 []=some (e (l.filter f)):=by
 obtain ⟨s', h1, h2⟩ := yS (L := L) (N := l.length) e (fun i s => s = (l.take i).filter f) (fun n s _ => bK n s) (fun n i s hi hs=>by
  refine⟨_,aK n i s hi ?_,?_⟩
  ·subst hs;have:=List.length_filter_le f (l.take i);rw[List.length_take] at this;omega
  ·subst hs;rw[AI f l i d hi];cases f (l.getD i d)<;>simp) (s:=[]) hn (by simp)
 rw[h1,h2,List.take_length]
def qT (l:List zH):Prop:=l.length≤1000
theorem nk {n}(h:n≤1000):zN (n+1) 56=true:=qH (by omega) (by omega)
def jk (t:Int)(p:zH):Bool:=bif decide (t≥p.2.2.2.2.2.1) then decide (t≤p.2.2.2.2.2.2) else false
theorem Vv {k l}(hk:l.length<k)(hl:qT l) t:En k l t=some (l.filter (jk t)):=by
 unfold En Vw;have := Jj pd (L := fun n i s => Jk k n l l.length i t s) (jk t) id (fun n s=>by
  show Eo k _ l l.length l.length t s=_;unfold Eo;simp) (fun n i s hi hs=>by
  show Eo k _ l l.length i t s=_;unfold Eo Vx Vy;unfold qT at hl;simp[qC,qE hi (by grind),nk (show s.length≤1000 by omega)];unfold jk;grind) hk
 simp_all
theorem Vz {k l}(hk:l.length<k)(hl:qT l) t:Ep k l t=some (l.filter (jk t)):=by
 unfold Ep;have := Jj pd (L := fun n i s => Jl k n l t i s) (jk t) id (fun n s=>by
  show Er k _ l t l.length s=_;unfold Er;simp) (fun n i s hi hs=>by
  show Er k _ l t i s=_;unfold Er VA;unfold qT at hl;simp[qC,qE hi (by grind),nk (show s.length≤1000 by omega)];unfold jk;grind) hk
 simp_all
def wV (f:Int)(p:zH):Bool:=decide (p.2.1=f)
theorem NV {k l}(hk:l.length<k)(hl:qT l) f:tF k l f=some (l.filter (wV f)):=by
 unfold tF;have := Jj pd (L := fun n i s => Jm k n l f i s) (wV f) id (fun n s=>by
  show Es k _ l f l.length s=_;unfold Es;simp) (fun n i s hi hs=>by
  show Es k _ l f i s=_;unfold Es;unfold qT at hl;simp[qC,qE hi (by grind),nk (show s.length≤1000 by omega)];unfold wV;grind) hk
 simp_all
def NW (r:List zH)(p:zH):Bool:=qG (fun x=>decide (((r.filter (wV p.2.1)).getD x pd).2.2.2.2.1=3)) (r.filter (wV p.2.1)).length 0
def NX (r:List zH)(p:zH):Bool:=decide ((r.filter (wV p.2.1)).getD 0 pd=p)
def rK (r:List zH)(p:zH):Bool:=NX r p||NW r p
def wA (l:List zH)(t:Int):List zH:=(l.filter (jk t)).filter (rK (l.filter (jk t)))
theorem eq7 (p q:zH):((decide (p.1=q.1))&&((decide (p.2.1=q.2.1))&&((decide (p.2.2.1=q.2.2.1))&&((decide (p.2.2.2.1=q.2.2.2.1))&&((decide (p.2.2.2.2.1=q.2.2.2.2.1))&&((decide (p.2.2.2.2.2.1=q.2.2.2.2.2.1))&&(decide (p.2.2.2.2.2.2=q.2.2.2.2.2.2))))))))=decide (p=q):=by
 grind
theorem vGs {k n:Nat}(s7:Int)(r0 r1 r2:List zH)(hk:r2.length<n)(hl:qT r2):
  Et k n s7 true 0 r0 r1 r2=some (s7,qG (fun x=>decide ((r2.getD x pd).2.2.2.2.1=3)) r2.length 0,r0,r1,r2):=by
 obtain ⟨s', h1, h2⟩ := yS (L := fun n i s => Et k n s7 s i r0 r1 r2) (N := r2.length) (fun s => (s7, s, r0, r1, r2)) (fun i s => s = qG (fun x => decide ((r2.getD x pd).2.2.2.2.1 = 3)) i 0) (fun n s _=>by
  show Eu k _ s7 s r2.length r0 r1 r2=_;unfold Eu;simp only [qU, ab (Nat.lt_irrefl _), an]) (fun n i s hi hs=>by
  refine⟨_,?_,rfl⟩;show Eu k _ s7 s i r0 r1 r2=_;unfold Eu;unfold qT at hl;simp only[qC,qE hi (show r2.length<9223372036854775808 by omega),qU,aq,aa hi,aj];have e:qG (fun x=>decide ((r2.getD x pd).2.2.2.2.1=3)) (i+1) 0=(s&&decide ((r2.getD i pd).2.2.2.2.1=3)):=by
   rw[Bool.eq_iff_iff,hs];simp only[gw,bb,aY];constructor
   ·intro h;exact⟨fun j hj=>h j (by omega),h i (by omega)⟩
   ·rintro⟨h1,h2⟩ j hj
    by_cases c:j=i
    ·subst c;exact h2
    ·exact h1 j (by omega)
  rw[e];cases s<;>rfl) (s:=true) hk rfl
 exact h1.trans (by rw[h2])
theorem yOu {k l}(hk:l.length<k)(hl:qT l) t:Jn k l t=some (wA l t):=by
 unfold Jn;rw[Vz hk hl];unfold wA;have dK:(l.filter (jk t)).length≤l.length:=by grind
 generalize l.filter (jk t)=r at dK;unfold qT at hl;have := Jj pd (L := fun n i s => Jo k n i r s) (l := r) (rK r) id (fun n s=>by
  show Ev k _ r.length r s=_;unfold Ev;simp) (fun n i s hi hs=>by
  show Ev k _ i r s=_;unfold Ev;have uL:(r.filter (wV (r.getD i pd).2.1)).length≤r.length:=by grind
  have sH:0<(r.filter (wV (r.getD i pd).2.1)).length:=by
   apply List.length_pos_of_mem (a:=r.getD i pd);rw[List.mem_filter];exact⟨jQ hi,by simp[wV]⟩
  have VB:=NV (k:=k) (l:=r) (by omega) (show r.length≤1000 by omega) (r.getD i pd).2.1;have b0:∀n:Nat,zB 0 n=decide (0<n):=fun n=>qC 0 n
  have e7:=eq7 ((r.filter (wV (r.getD i pd).2.1)).getD 0 pd) (r.getD i pd);simp only[aq];rw[VB];simp only[ae];rw[vGs ((i:Nat):Int) r s _ (by omega) (show _≤1000 by omega)];simp[b0,qC,qE hi (by grind),nk (show s.length≤1000 by omega)];unfold rK NX NW;grind) (show r.length<k by omega)
 simp_all
def AJ (f:Int)(q:zH):Bool:=decide (q.2.1=f)&& !decide (q.2.2.2.2.1=3)
theorem vU1 {k}{l:List zH}(hk:l.length<k)(hl:l.length<9223372036854775808) i f t a c s e:
  NY k l i f t a c s e=some (!qG (fun x=> !AJ f (l.getD x pd)) l.length 0):=by
 obtain ⟨x, h1, h2⟩ := vn (L := fun n i' => Jp k n l l.length i' i f t a c s e) (N := l.length) (fun x => AJ f (l.getD x pd)) (fun n=>by
  show Ew k _ l l.length l.length i f t a c s e=_;unfold Ew;simp) (fun n j hj=>by
  show Ew k _ l l.length j i f t a c s e=_;unfold Ew VC;simp[qC,qE hj hl];unfold AJ;grind) hk
 unfold NY VD;grind
theorem vZ9 (r:List zH)(p:zH):NW r p=true↔∀q∈r,q.2.1=p.2.1→q.2.2.2.2.1=3:=by
 unfold NW;rw[gw];constructor
 ·intro h q hq he;have hm:q∈r.filter (wV p.2.1):=List.mem_filter.2 ⟨hq,by simp[wV,he]⟩;obtain⟨i,hi,e⟩:=List.getElem_of_mem hm;have:=h i hi;rw[List.getD_eq_getElem?_getD,List.getElem?_eq_getElem hi,e] at this
  simpa using this
 ·intro h j hj;have hm:=jQ (d:=pd) hj;rw[List.mem_filter] at hm;have:=h _ hm.1 (by simpa[wV] using hm.2)
  simpa using this
theorem vEq (r:List zH)(f:Int):qG (fun x=> !AJ f (r.getD x pd)) r.length 0=true↔∀q∈r,q.2.1=f→q.2.2.2.2.1=3:=by
 rw[gw];constructor
 ·intro h q hq he;obtain⟨i,hi,e⟩:=List.getElem_of_mem hq;have:=h i hi;rw[List.getD_eq_getElem?_getD,List.getElem?_eq_getElem hi,e] at this
  simpa[AJ,he] using this
 ·intro h j hj;have:=h _ (jQ (d:=pd) hj);simp only[AJ,Bool.not_eq_true',Bool.and_eq_false_iff,Bool.not_eq_false',aY,decide_eq_false_iff_not];by_cases c:(r.getD j pd).2.1=f
  ·exact .inr (this c)
  ·exact .inl c
theorem qN.split {r}(h:qN r){i}(hi:i<r.length):∀q∈r.take i,q.1≠(r.getD i pd).1:=by
 intro q hq;have e:r.take (i+1)=r.take i++[r.getD i pd]:=(jW r i pd hi).symm;have hs:qN (r.take (i+1)):=List.Pairwise.sublist (by grind) h;rw[e] at hs;exact(List.pairwise_append.1 hs).2.2 q hq _ (by simp)
theorem NZ {α:Type} r i (d:α)(hi:i<r.length):r=r.take i++r.getD i d::r.drop (i+1):=by
 simp_all
theorem vKv {r}(h:qN r){i}(hi:i<r.length):NX r (r.getD i pd)= !(r.take i).any (wV (r.getD i pd).2.1):=by
 unfold NX;have e:∀f,wV f (r.getD i pd)=true→r.filter (wV f)=(r.take i).filter (wV f)++r.getD i pd::(r.drop (i+1)).filter (wV f):=by
  intro f hf;have:=congrArg (List.filter (wV f)) (NZ r i pd hi);grind
 have e:=e (r.getD i pd).2.1 (by simp[wV]);rw[e];cases ha:(r.take i).any (wV (r.getD i pd).2.1) with
 |false=>
  have:(r.take i).filter (wV (r.getD i pd).2.1)=[]:=by
   simp_all
  grind
 |true=>
  cases hf:(r.take i).filter (wV (r.getD i pd).2.1) with
  |nil=>
   rw[List.filter_eq_nil_iff] at hf;grind
  |cons q l=>
   have hq:q∈r.take i:=(List.mem_filter.1 (hf▸List.mem_cons_self ..:q∈(r.take i).filter _)).1;have:=h.split hi q hq;grind
theorem vPm {r}(h:qN r){i}(hi:i<r.length):
  rK r (r.getD i pd)=(!(r.take i).any (wV (r.getD i pd).2.1)||(decide ((r.getD i pd).2.2.2.2.1=3)&&qG (fun x=> !AJ (r.getD i pd).2.1 (r.getD x pd)) r.length 0)):=by
 unfold rK;rw[vKv h hi]
 congr 1
 rw[Bool.eq_iff_iff,vZ9,bb,vEq,aY];grind
theorem lookup_cons (f g:Int)(l:List (Int×Bool)):(List.lookup f ((g,true)::l)).getD false=(decide (f=g)||(List.lookup f l).getD false):=by
 rw[List.lookup_cons];by_cases c:f=g
 ·subst c;simp
 ·have:(f==g)=false:=by simpa using c
  rw[this];simp[c]
theorem yF8 {k:Nat}{l:List zH}(hk:l.length<k)(hl:qT l)(hd:qN l)(t:Int):Jq k l t=some (wA l t):=by
 unfold Jq;rw[Vv hk hl];simp only[ae];unfold wA;have dK:(l.filter (jk t)).length≤l.length:=List.length_filter_le _ _;have uN:=hd.filter (jk t);generalize l.filter (jk t)=r at dK uN;unfold qT at hl;unfold VE;obtain ⟨s', h1, h2, h3⟩ := yS (L := fun n i (s : List (Int × Bool) × List zH) => Ey k n r r.length i s.1 r s.2) (N := r.length) (fun s => (s.1, r, s.2)) (fun i s => (∀ f, (List.lookup f s.1).getD false = (r.take i).any (wV f)) ∧ s.2 = (r.take i).filter (rK r)) (fun n s _=>by
  show Ez k _ r r.length r.length s.1 r s.2=_;unfold Ez;simp only [qU, ab (Nat.lt_irrefl _), an]) (fun n i s hi hs=>by
  refine⟨(((r.getD i pd).2.1,true)::s.1,bif rK r (r.getD i pd) then s.2++[r.getD i pd] else s.2),?_,?_,?_⟩
  ·show Ez k _ r r.length i s.1 r s.2=_;unfold Ez VF;have hlen:s.2.length≤i:=by
    rw[hs.2];have:=List.length_filter_le (rK r) (r.take i);rw[List.length_take] at this;omega
   have hc:=vU1 (k:=k) (l:=r) (by omega) (by omega) (r.getD i pd).1 (r.getD i pd).2.1 (r.getD i pd).2.2.1 (r.getD i pd).2.2.2.1 (r.getD i pd).2.2.2.2.1 (r.getD i pd).2.2.2.2.2.1 (r.getD i pd).2.2.2.2.2.2;have tn:=hs.1 (r.getD i pd).2.1;have hp:=vPm uN hi;simp only[pd] at hc tn hp⊢;simp only[qC,qE hi (show r.length<9223372036854775808 by omega),qU,aq,aa hi,aj,nk (show s.2.length≤1000 by omega)];rw[hc,tn,hp];generalize (r.take i).any _=x;generalize qG _ _ 0=y;generalize decide ((r.getD i (0,(0,(0,(0,(0,(0,0))))))).2.2.2.2.1=3)=z;cases x<;>cases y<;>cases z<;>rfl
  ·intro f;rw[lookup_cons,hs.1 f,←jW r i pd hi,List.any_append,Bool.or_comm]
   congr 1
   simp only[List.any_cons,List.any_nil,Bool.or_false,wV];rw[Bool.eq_iff_iff];simp only[aY];exact eq_comm
  ·show(bif rK r (r.getD i pd) then s.2++[r.getD i pd] else s.2)=_;rw[hs.2,AI _ _ _ pd hi];cases rK r (r.getD i pd)<;>simp) (s:=([],[])) (show r.length<k by omega) ⟨fun f=>by simp,by simp⟩
 have fW:Ey k k r r.length 0 [] r []=some (s'.1,r,s'.2):=h1;rw[fW,h3,List.take_length];rfl
def wg (p:Nat→Bool):Nat→Nat→Option Nat
 |0,_=>none
 |c+1,i=>bif p i then some i else wg p c (i+1)
def VG:Option Nat→Unit⊕Int
 |some x=>.inr (x:Int)
 |none=>.inl ()
theorem VH {L:Nat→Int→Option (Unit⊕Int)}{N:Nat} bad (bK:∀n,L (n+1) (N:Int)=some (.inl ()))
  (aK:∀n i,i<N→L (n+1) (i:Int)=bif bad i then some (.inr (i:Int)) else L n ((i+1:Nat):Int)):
  ∀c i n,i+c=N→c<n→L n (i:Int)=some (VG (wg bad c i))
 |0,i,n,h,hn=>by
  obtain⟨n,rfl⟩:∃m,n=m+1:=⟨n-1,by omega⟩;have:i=N:=by omega
  subst this;exact bK n
 |c+1,i,n,h,hn=>by
  obtain⟨n,rfl⟩:∃m,n=m+1:=⟨n-1,by omega⟩;rw[aK n i (by omega)];unfold wg;cases hb:bad i with
  |true=>rfl
  |false=>
   exact VH bad bK aK c (i+1) n (by omega) (by omega)
theorem yN4 {p}:∀{c i x},wg p c i=some x→i≤x∧x<i+c∧p x=true∧∀j,i≤j→j<x→p j=false
 |c+1,i,x,h=>by
  unfold wg at h;cases hp:p i with
  |true=>
   grind
  |false=>
   rw[hp] at h;obtain⟨h1,h2,h3,h4⟩:=yN4 h;grind
theorem yG1 {p}:∀{c i},wg p c i=none→∀j,i≤j→j<i+c→p j=false
 |0,_,_=>by grind
 |c+1,i,h=>by
  unfold wg at h;cases hp:p i with
  |true=>
   simp_all
  |false=>
   rw[hp] at h;intro j j1 j2;by_cases e:j=i
   ·simp_all
   ·exact yG1 h j (by omega) (by omega)
def vS (l:List zH)(id:Int):Option Nat:=wg (fun x=>decide ((l.getD x pd).1=id)) l.length 0
def kt (l:List zH)(id:Int):Int:=match vS l id with|some x=>(x:Int)|none=>-1
theorem ku {l id x}(h:vS l id=some x):x<l.length∧(l.getD x pd).1=id:=by
 obtain⟨_,h2,h3,_⟩:=yN4 h;simp_all
theorem VI {l id}(h:vS l id=none):∀p∈l,p.1≠id:=by
 intro p hp e;obtain⟨i,hi,e'⟩:=List.getElem_of_mem hp;have:=yG1 h i (by omega) (by omega);simp_all
theorem N0 {l p}(h:p∈l):∃x,vS l p.1=some x:=by
 cases e:vS l p.1 with
 |some x=>simp
 |none=>exact absurd rfl (VI e p h)
theorem N1 {k}{l:List zH}(hk:l.length<k)(hl:l.length<9223372036854775808) id:mv k l id=some (kt l id):=by
 have := VH (L := fun n i => EA k n l id i) (N := l.length) (fun x => decide ((l.getD x pd).1 = id)) (fun n=>by
  show EB k _ l id l.length=_;unfold EB;simp) (fun n j hj=>by
  show EB k _ l id j=_;unfold EB;simp[qC,qE hj hl,aa hj]) l.length 0 k (by omega) hk
 have h1:EA k k l id 0=some (VG (vS l id)):=this;unfold mv kt;rw[h1];cases vS l id<;>rfl
theorem EC {k}{l:List zH}(hk:l.length<k)(hl:l.length<9223372036854775808) id:og k l id=some (kt l id):=by
 have := VH (L := fun n i => ED k n l l.length i id) (N := l.length) (fun x => decide ((l.getD x pd).1 = id)) (fun n=>by
  show EE k _ l l.length l.length id=_;unfold EE;simp) (fun n j hj=>by
  show EE k _ l l.length j id=_;unfold EE VJ;simp only[qC,qE hj hl,qU,aa hj];rfl) l.length 0 k (by omega) hk
 have h1:ED k k l l.length 0 id=some (VG (vS l id)):=this;unfold og VK kt;rw[h1];cases vS l id<;>rfl
def yC (l:List zH)(x:Nat):List zH:=l.take x++l.drop (x+1)
theorem nn {l x}(h:x<l.length):(yC l x).length=l.length-1:=by
 unfold yC;grind
theorem tG l x:List.Sublist (yC l x) l:=by
 unfold yC
 conv=>rhs;rw[←List.take_append_drop x l]
 grind
theorem qN.cut {l}(h:qN l) x:qN (yC l x):=List.Pairwise.sublist (tG l x) h
theorem vB7 k {l}{x:Nat}(hx:x<l.length)(hl:qT l):Jr k l x ((x+1:Nat):Int)=some (yC l x):=by
 unfold Jr;have c1:(decide ((0:Int)≤(x:Int)))=true:=by simp
 have c2:decide ((x:Int)≤((x+1:Nat):Int))=true:=aa (by omega);have c3:decide (((x+1:Nat):Int)≤(l.length:Int))=true:=aa (by omega);have c4:decide ((l.length:Int)≤(l.length:Int))=true:=by simp
 have c5:decide ((x:Int)=((x+1:Nat):Int))=false:=ab (by omega);have c6:decide ((x:Int)≤(l.length:Int))=true:=aa (by omega);have c7:decide ((0:Int)≤((x+1:Nat):Int))=true:=aa (by omega);have c8:Nat.ble (x-0) (0+(x+1))=true:=by simp
 simp only[aq,c1,c2,c3,c4,c5,c6,c7,c8,an];have e0:x-0+(l.length-(x+1))=l.length-1:=by omega
 have e1:List.take (x-0) l++qR l (0+(x+1)) (l.length-(x+1))=yC l x:=by
  unfold qR yC;rw[Nat.sub_zero,Nat.zero_add]
  congr 1
  rw[List.take_of_length_le];rw[List.length_drop];exact Nat.le_refl _
 have e2:(qR (yC l x++List.drop (l.length-1) l) 0 (l.length-1))=yC l x:=by
  unfold qR;rw[List.drop_zero,List.take_append_of_le_length (by rw[nn hx];exact Nat.le_refl _),List.take_of_length_le (by rw[nn hx];exact Nat.le_refl _)]
 have e3:(yC l x++List.drop (l.length-1) l).length=l.length:=by
  rw[List.length_append,List.length_drop,nn hx];omega
 have c9:decide ((0:Int)≤((yC l x).length:Int))=true:=by simp
 have N2:decide (((yC l x).length:Int)≤(l.length:Int))=true:=by grind
 have AK:decide ((l.length:Int)≤((l.length-0:Nat):Int))=true:=by simp
 have e4:List.take (0+(yC l x).length) (yC l x++List.drop (l.length-1) l)=yC l x:=by
  rw[Nat.zero_add,List.take_append_of_le_length (Nat.le_refl _),List.take_of_length_le (Nat.le_refl _)]
 simp only[e0,e1,e2,e3,c9,N2,AK,e4,Bool.and_true,aj];rw[List.append_assoc,List.take_append_of_le_length (by rw[nn hx];exact Nat.le_refl _),List.take_of_length_le (by rw[nn hx];exact Nat.le_refl _)]
def g9 (l:List zH)(id:Int):List zH×Int×Int×Int×Int×Int×Int×Int×Int:=match vS l id with
 |some x=>(yC l x,(l.getD x pd).1,(l.getD x pd).2.1,(l.getD x pd).2.2.1,(l.getD x pd).2.2.2.1,(l.getD x pd).2.2.2.2.1,(l.getD x pd).2.2.2.2.2.1,(l.getD x pd).2.2.2.2.2.2,0)
 |none=>(l,0,0,0,0,0,0,0,4)
theorem AL {k l}(hk:l.length<k)(hl:qT l) id:px k l id=some (g9 l id):=by
 unfold qT at hl;unfold px;rw[EC hk (by omega)];unfold kt g9;cases hp:vS l id with
 |none=>rfl
 |some x=>
  have hx:=(ku hp).1;have e1:decide ((x:Int)<0)=false:=by simp
  have e2:wh k l=some l:=by
   unfold wh;rw[qH (by omega) (by omega)];rfl
  simp only[ae,e1,an,e2,qE hx (by grind),vB7 k hx hl,qC,aa hx,aj,aq]
def jC (q p:zH):Bool:=decide (q.2.1<p.2.1)||(decide (q.2.1=p.2.1)&&decide (q.2.2.2.2.1≤p.2.2.2.2.1))
def jl (q p:zH):Bool:=decide (q.2.1<p.2.1)||(decide (q.2.1=p.2.1)&&decide (q.2.2.2.2.1<p.2.2.2.2.1))
theorem vH6 n x y:N3 (n+3) [x,y]=some (if x=0 then y else x):=by
 have key:∀n:Nat,Js (n+3) (n+3) 0 [x,y] 2 0=bif !decide (x=0) then some (.inr x) else bif !decide (y=0) then some (.inr y) else some (.inl 0):=fun n=>rfl
 unfold N3;grind
theorem VL k a b:Jt k a b=some (if a<b then-1 else if a>b then 1 else 0):=by
 unfold Jt N4;grind
theorem VM {k}(hk:3≤k) q p:∃x,EF k q.1 q.2.1 q.2.2.1 q.2.2.2.1 q.2.2.2.2.1 q.2.2.2.2.2.1 q.2.2.2.2.2.2 p.1 p.2.1 p.2.2.1 p.2.2.2.1 p.2.2.2.2.1 p.2.2.2.2.2.1 p.2.2.2.2.2.2=some x∧decide (x≤0)=jC q p∧decide (x<0)=jl q p:=by
 obtain⟨n,rfl⟩:∃n,k=n+3:=⟨k-3,by omega⟩;unfold EF;simp only[VL,vH6];refine⟨_,rfl,?_,?_⟩
 ·unfold jC;grind
 ·unfold jl;grind
def Ju (ok:Nat→Bool):Nat→Nat→Nat
 |0,i=>i
 |c+1,i=>bif ok i then Ju ok c (i+1) else i
theorem EG {X:Type}{L:Nat→Int→Option X}{N:Nat} ok (e:Nat→X)(bK:∀n,L (n+1) (N:Int)=some (e N))
  (aK:∀n i,i<N→L (n+1) (i:Int)=bif ok i then L n ((i+1:Nat):Int) else some (e i)):∀c i n,i+c=N→c<n→L n (i:Int)=some (e (Ju ok c i))
 |0,i,n,h,hn=>by
  obtain⟨n,rfl⟩:∃m,n=m+1:=⟨n-1,by omega⟩;have:i=N:=by omega
  subst this;exact bK n
 |c+1,i,n,h,hn=>by
  obtain⟨n,rfl⟩:∃m,n=m+1:=⟨n-1,by omega⟩;rw[aK n i (by omega)];unfold Ju;cases ok i with
  |false=>rfl
  |true=>exact EG ok e bK aK c (i+1) n (by omega) (by omega)
theorem EH {α:Type} f (l:List α) d:∀c i,i+c=l.length→Ju (fun x=>f (l.getD x d)) c i=i+((l.drop i).takeWhile f).length
 |0,i,h=>by
  rw[List.drop_eq_nil_of_le (by omega)];rfl
 |c+1,i,h=>by
  rw[List.drop_eq_getElem_cons (by grind)];unfold Ju;have e:l.getD i d=l[i]:=by grind
  rw[e];cases hf:f l[i] with
  |false=>rw[List.takeWhile_cons_of_neg (by simp[hf])];rfl
  |true=>
   rw[List.takeWhile_cons_of_pos hf,aj,EH f l d c (i+1) (by omega),List.length_cons];omega
theorem np {α:Type} f (l:List α):l.take (l.takeWhile f).length=l.takeWhile f∧l.drop (l.takeWhile f).length=l.dropWhile f:=by
 have e:=List.takeWhile_append_dropWhile (p:=f) (l:=l);grind
theorem AM {α:Type} f (l:List α):(l.takeWhile f).length≤l.length:=(List.takeWhile_sublist f).length_le
theorem VN {α b} f l (p:α)(hl:l.length≤1000)(hb:b≤1000):ins b l (((l.takeWhile f).length:Nat):Int) [p]=some (l.takeWhile f++(p::l.dropWhile f)):=by
 unfold ins;have h:=AM f l;have hm:(l.length+1)*b≤1001*1000:=Nat.mul_le_mul (by omega) hb;rw[aa (by simp),aa (by grind),qH (by grind) (by omega),aq,(np f l).1,(np f l).2];rfl
def oh (l:List zH)(p:zH):List zH:=l.takeWhile (fun q=>jC q p)++(p::l.dropWhile (fun q=>jC q p))
def Jv (l:List zH)(p:zH):List zH:=l.takeWhile (fun q=>jl q p)++(p::l.dropWhile (fun q=>jl q p))
theorem yBv {k l}(hl:qT l):wh k l=some l:=by
 unfold qT at hl;unfold wh;rw[qH (by omega) (by omega)];rfl
theorem VO {k}(hk:3≤k) l (hl:qT l)(bL:l.length<k)(p:zH):Jw k k l 0 p=some (l,(((l.takeWhile (fun q=>jC q p)).length:Nat):Int),p):=by
 unfold qT at hl;have := EG (L := fun n i => Jw k n l i p) (N := l.length) (fun x => jC (l.getD x pd) p) (fun i => (l, (i : Int), p)) (fun n=>by
  show EI k _ l l.length p=_;unfold EI;simp) (fun n i hi=>by
  show EI k _ l i p=_;unfold EI;obtain⟨x,h1,h2,_⟩:=VM hk (l.getD i pd) p;simp only[qC,qU,aq,aa hi,h1,ae,h2,qE hi (by grind)];rfl) l.length 0 k (by omega) bL
 have e:((0:Nat):Int)=0:=rfl;rw[e] at this;rw[this,EH (fun q=>jC q p) l pd l.length 0 (by omega),List.drop_zero,Nat.zero_add]
theorem VP {k l}(hk:3≤k)(bL:l.length<k)(hl:qT l)(p:zH):
  wi k l p=some (bif (vS l p.1).isSome then(l,6) else bif decide (40≤l.length) then(l,3) else(oh l p,0)):=by
 have dK:=hl;unfold qT at hl;unfold wi;rw[EC bL (by omega)];unfold kt;cases hp:vS l p.1 with
 |some x=>
  rfl
 |none=>
  by_cases h:40≤l.length
  ·grind
  ·rw[ab h,ab (by grind)];simp[VO hk l dK bL,yBv dK,N5];rw[VN _ l p hl (by decide)];rfl
theorem VQ {l x}(h:qT l):qT (yC l x):=by
 unfold qT at*
 have:=(tG l x).length_le;omega
def Jx (l:List zH)(id:Int):List zH:=match vS l id with|some x=>yC l x|none=>l
theorem yDc {l id}(hd:qN l):vS (Jx l id) id=none:=by
 cases h:vS (Jx l id) id with
 |none=>rfl
 |some y=>
  exfalso;obtain⟨h1,h2⟩:=ku h;unfold Jx at h h1 h2;cases hp:vS l id with
  |none=>
   rw[hp] at h;rw[hp] at h;cases h
  |some x=>
   rw[hp] at h1 h2;obtain⟨h3,h4⟩:=ku hp;have hm:=jQ (d:=pd) h1;have e:=NZ l x pd h3;rw[e] at hd;have Jy:=List.pairwise_append.1 hd;have VR:=List.pairwise_cons.1 Jy.2.1;rcases List.mem_append.1 hm with hm|hm
   ·exact Jy.2.2 _ hm _ (List.mem_cons_self ..) (h2.trans h4.symm)
   ·exact VR.1 _ hm (h4.trans h2.symm)
theorem vQh {k l}(hk:3≤k)(bL:l.length<k)(hl:qT l)(hd:qN l)(h40:l.length≤40){id x}(hx:vS l id=some x) c:
  EJ k l id c=some (oh (yC l x) ((l.getD x pd).1,(l.getD x pd).2.1,(l.getD x pd).2.2.1,(l.getD x pd).2.2.2.1,c,(l.getD x pd).2.2.2.2.2.1,(l.getD x pd).2.2.2.2.2.2),0):=by
 have dj:=ku hx;have hw:=yDc (id:=id) hd;unfold Jx at hw;have hlen:=nn dj.1;unfold EJ;rw[AL bL hl];unfold g9;rw[hx];simp;rw[VP hk (by omega) (VQ hl)];grind
theorem vWr {k l}(hk:3≤k)(bL:l.length<k)(hl:qT l)(hd:qN l)(h40:l.length≤40){id x}(hx:vS l id=some x):
  EK k l id=some (oh (yC l x) (l.getD x pd),0):=by
 have dj:=ku hx;have hw:=yDc (id:=id) hd;unfold Jx at hw;have hlen:=nn dj.1;unfold EK;rw[AL bL hl];unfold g9;rw[hx];simp;rw[VP hk (by omega) (VQ hl)];grind
theorem VT {k}(hk:3≤k) l (hl:qT l)(bL:l.length<k)(p:zH):Jz k k 0 l p=some ((((l.takeWhile (fun q=>jl q p)).length:Nat):Int),l,p):=by
 unfold qT at hl;have := EG (L := fun n i => Jz k n i l p) (N := l.length) (fun x => jl (l.getD x pd) p) (fun i => ((i : Int), l, p)) (fun n=>by
  show EL k _ l.length l p=_;unfold EL;simp) (fun n i hi=>by
  show EL k _ i l p=_;unfold EL;obtain⟨x,h1,_,h2⟩:=VM hk (l.getD i pd) p;simp only[qC,qU,aq,aa hi,h1,ae,h2,qE hi (by grind)];rfl) l.length 0 k (by omega) bL
 have e:((0:Nat):Int)=0:=rfl;rw[e] at this;rw[this,EH (fun q=>jl q p) l pd l.length 0 (by omega),List.drop_zero,Nat.zero_add]
theorem vQk {k l}(hk:3≤k)(bL:l.length<k)(hl:qT l){id x}(hx:vS l id=some x):
  EM k l id=some (Jv (yC l x) (l.getD x pd),0):=by
 have dK:=hl;unfold qT at hl;have dj:=ku hx;have hlen:=nn dj.1;have e1:decide ((x:Int)<0)=false:=by simp
 unfold EM VU;rw[EC bL (by omega)];unfold kt;rw[hx];simp only[ae,e1,an,yBv dK,qE dj.1 (by grind),vB7 k dj.1 dK,qC,aa dj.1,aj];rw[VT hk (yC l x) (VQ dK) (by omega)];simp[N5];rw[VN _ (yC l x) _ (by omega) (by decide)];rfl
def jZ (l:AC)(id:Int):Nat:=(l.takeWhile (fun x=>decide (x<id))).length
theorem VV {x}(h0:0≤x)(h1:x<9223372036854775808):zA (shr .u64 (IntKind.wrap .u64 (zA x)) 1)=x/2:=by
 have e1:zA x=x:=zO (by omega) h1;have e2:IntKind.wrap .u64 x=x:=by
  unfold IntKind.wrap;simp[IntKind.bits];omega
 rw[e1,e2];have e3:shr .u64 x 1=x/2:=by
  have:(2:Int)^(min (1:Int).toNat (IntKind.bits .u64))=2:=by decide
  grind
 rw[e3];exact zO (by omega) (by omega)
theorem vMk k a b:N6 k a b=some (decide (a<b)):=by
 unfold N6 N7;simp
theorem VW {k l id}(hl:l.length≤1000){c:Nat}(hc:c≤l.length)(h1:∀x,x<c→l.getD x 0<id)(h2:∀x,c≤x→x<l.length→id≤l.getD x 0) s6:
  ∀n i j,i≤c→c≤j→j≤l.length→j-i<n→JA k n l id s6 i j=some (l,id,s6,(c:Int))
 |n+1,i,j,hi,hj,yq,hn=>by
  show N8 k (JA k n) l id s6 i j=_;unfold N8;rw[qU];by_cases nK:i<j
  ·have hh:zA (shr .u64 (IntKind.wrap .u64 (zA ((i:Int)+(j:Int)))) 1)=(((i+j)/2:Nat):Int):=by
    rw[VV (by omega) (by omega)];omega
   have hm:(i+j)/2<l.length:=by omega
   rw[aa nK,aj,hh,qC,aa hm,aj,vMk];simp only[ae,aq];by_cases bj:(i+j)/2<c
   ·rw[aa (h1 _ bj),aj,qE hm (by omega)];exact VW hl hc h1 h2 s6 n _ j (by omega) hj yq (by omega)
   ·rw[ab (by grind),an];exact VW hl hc h1 h2 s6 n i _ hi (by omega) (by omega) (by omega)
  grind
theorem vNo {k l id}(bL:l.length<k)(hl:l.length≤1000){c:Nat}(hc:c≤l.length)(h1:∀x,x<c→l.getD x 0<id)(h2:∀x,c≤x→x<l.length→id≤l.getD x 0):
  EN k l id=some ((c:Int),decide (c<l.length)&&decide (l.getD c 0=id)):=by
 unfold EN;have:=VW (k:=k) hl hc h1 h2 (l.length:Int) k 0 l.length (by omega) hc (by simp) (by omega);rw[show((0:Nat):Int)=0 from rfl] at this;rw[this];simp only[ae,qC,aq];by_cases h:c<l.length
 ·simp only[aa h];by_cases h3:l.getD c 0=id
  ·simp_all
  ·rw[ab h3];unfold N9;simp
 grind
def tH (l:AC):Prop:=List.Pairwise (fun a b=>a<b) l
theorem yCs {l id}:∀x,x<jZ l id→l.getD x 0<id:=by
 intro x hx;unfold jZ at hx;have h:=np (fun x=>decide (x<id)) l;have e:l.getD x 0=(l.takeWhile (fun x=>decide (x<id))).getD x 0:=by
  grind
 have hm:=jQ (d:=(0:Int)) hx;have:=List.all_eq_true.1 (List.all_takeWhile (p:=fun x=>decide (x<id)) (l:=l)) _ hm;simp_all
theorem vBy {l}(ha:tH l){id}:∀x,jZ l id≤x→x<l.length→id≤l.getD x 0:=by
 intro x hx hl;have hi:jZ l id<l.length:=by omega
 have h:=np (fun x=>decide (x<id)) l;have h0:¬l.getD (jZ l id) 0<id:=by
  have hd:l.drop (jZ l id)=l[jZ l id]::l.drop (jZ l id+1):=by simp
  have h2:=h.2;unfold jZ at hd;rw[h2] at hd;have bp:l.dropWhile (fun x=>decide (x<id))≠[]:=by rw[hd];simp
  have:=List.head_dropWhile_not (fun x=>decide (x<id)) bp;have e:(l.dropWhile (fun x=>decide (x<id))).head bp=l[jZ l id]:=by
   unfold jZ;simp_all
  simp_all
 by_cases e:x=jZ l id
 ·rw[e];omega
 ·have:=List.pairwise_iff_getElem.1 ha (jZ l id) x hi hl (by omega);grind
theorem vRa {l}(ha:tH l) id:(decide (jZ l id<l.length)&&decide (l.getD (jZ l id) 0=id))=decide (id∈l):=by
 by_cases hm:id∈l
 ·obtain⟨x,hx,e⟩:=List.getElem_of_mem hm;have e':l.getD x 0=id:=by simp_all
  have h1:¬x<jZ l id:=fun h=>by have:=yCs x h;omega
  have h3:jZ l id<l.length:=by omega
  have h4:¬jZ l id<x:=fun h=>by
   have g1:=vBy ha (id:=id) (jZ l id) (by simp) h3;have g2:=List.pairwise_iff_getElem.1 ha (jZ l id) x h3 hx h;grind
  grind
 grind
def py (l:AC)(id:Int):AC:=l.takeWhile (fun x=>decide (x<id))++(id::l.dropWhile (fun x=>decide (x<id)))
theorem yDk {k l}(bL:l.length<k)(hl:l.length≤1000)(ha:tH l) id:EN k l id=some ((jZ l id:Int),decide (id∈l)):=by
 rw[vNo bL hl (AM _ l) yCs (vBy ha)];show some ((jZ l id:Int),decide (jZ l id<l.length)&&decide (l.getD (jZ l id) 0=id))=_;rw[vRa ha]
theorem vF1 {k l}(bL:l.length<k)(hl:l.length≤1000)(ha:tH l) id:Oa k l id=some (decide (id∈l)):=by
 unfold Oa;rw[yDk bL hl ha];rfl
theorem vEg {k l}(bL:l.length<k)(hl:l.length≤1000)(ha:tH l) id:
  EO k l id=some (bif decide (id∈l) then(l,6) else bif decide (200≤l.length) then(l,3) else(py l id,0)):=by
 unfold EO;rw[yDk bL hl ha];by_cases hm:id∈l
 ·simp_all
 ·rw[ab hm];by_cases h:200≤l.length
  ·grind
  ·rw[ab h,ab (by grind)];have e2:pq k l=some l:=by
    unfold pq;rw[qH (by omega) (by omega)];rfl
   simp[e2,yMz];unfold jZ;rw[VN _ l id hl (by decide)];rfl
def iz (l:AC):Int:=zP (fun x=>x) l
def wj (x:Int):Bool:=decide (-9223372036854775808≤x)&&decide (x<9223372036854775808)
theorem yX9 x:shr .i64 x 63=x/9223372036854775808:=by
 show x.fdiv (2^(min 63 64))=_;grind
theorem pz x:IntKind.wrap .u64 x=x%18446744073709551616:=by
 rfl
theorem vQg {x}(h:0≤x∧x<18446744073709551616):zA x=if x<9223372036854775808 then x else x-18446744073709551616:=by
 unfold zA IntKind.wrap;simp[IntKind.bits,IntKind.signed];grind
theorem VX (l:AC) i (hi:i<l.length):iz (l.take (i+1))=iz (l.take i)+l.getD i 0:=by
 have:l.take (i+1)=l.take i++[l.getD i 0]:=by
  simp_all
 unfold iz;rw[this,lD];simp[zP]
theorem yHq {k l}(hk:l.length<k)(hl:l.length≤1000000)(hw:∀i,i<l.length→-9223372036854775808≤l.getD i 0∧l.getD i 0<9223372036854775808):
  EP k l=some (bif wj (iz l) then(iz l,true) else(0,false)):=by
 obtain ⟨s', g1, g2, g3, g4⟩ := yS (L := fun n i (s : Int × Int) => ER k n s.1 s.2 l (l.length : Int) i) (N := l.length) (fun s => (s.1, s.2)) (fun i s => (0 ≤ s.2 ∧ s.2 < 18446744073709551616) ∧ s.1 * 18446744073709551616 + s.2 = iz (l.take i) ∧ (-(i : Int) ≤ s.1 ∧ s.1 ≤ i)) (fun n s _=>by
  show ES k _ s.1 s.2 l l.length l.length=_;unfold ES;simp only [qU, ab (Nat.lt_irrefl _), an]) (fun n i s hi hs=>by
  obtain⟨h,lo⟩:=s;obtain⟨⟨h1,h2⟩,h3,h4⟩:=hs;simp only at h1 h2 h3 h4;show∃s',ES k _ h lo l l.length i=_∧_;unfold ES C7;have hb:=hw i hi;have Ob:=VX l i hi;obtain⟨v,hv⟩:∃v,l.getD i 0=v:=⟨_,rfl⟩;rw[hv] at hb Ob;simp only[qU,qC,aq,aa hi,aj,hv,pz,yX9,decide_true,ae,qE hi (show l.length<9223372036854775808 by omega)];obtain⟨u,hu⟩:∃u,v%18446744073709551616=u:=⟨_,rfl⟩;rw[hu];obtain⟨q,hq⟩:∃q,v/9223372036854775808=q:=⟨_,rfl⟩;rw[hq];have ql:u=v-q*18446744073709551616:=by omega
  have om:q=0∨q= -1:=by omega
  obtain⟨a,ha⟩:∃a:Nat,lo.toNat+u.toNat+0=a:=⟨_,rfl⟩;rw[ha];have qf:(a:Int)=lo+u:=by omega
  obtain⟨c,hc⟩:∃c:Nat,a/18446744073709551616=c:=⟨_,rfl⟩;obtain⟨m,hm⟩:∃c:Nat,a%18446744073709551616=c:=⟨_,rfl⟩;rw[hc,hm];have hcm:a=c*18446744073709551616+m:=by omega
  have vi:m<18446744073709551616:=by omega
  have ld:c≤1:=by omega
  have e1:zA (Int.ofNat c)=(c:Int):=zO (by show(_:Int)≤((c:Nat):Int);omega) (by show((c:Nat):Int)<_;omega);have e2:zA (q+(c:Int))=q+c:=zO (by omega) (by omega);have e3:zA (h+(q+(c:Int)))=h+(q+c):=zO (by omega) (by omega);rw[e1,e2,e3];refine⟨(h+(q+c),(m:Int)),rfl,by grind,?_,?_⟩
  ·rw[Ob];show(h+(q+c))*18446744073709551616+(m:Int)=_;omega
  ·show-((i+1:Nat):Int)≤h+(q+c)∧h+(q+c)≤((i+1:Nat):Int);omega) (s:=(0,0)) hk ⟨⟨by show(0:Int)≤0;omega,by show(0:Int)<_;omega⟩,rfl,by show-((0:Nat):Int)≤0;omega,by show(0:Int)≤((0:Nat):Int);omega⟩
 have AN:ER k k 0 0 l (l.length:Int) 0=some (s'.1,s'.2):=g1;rw[List.take_length] at g3;unfold EP;rw[AN];simp only[ae,yX9];rw[vQg g2];by_cases c:wj (iz l)=true
 ·have c':-9223372036854775808≤iz l∧iz l<9223372036854775808:=by simpa[wj] using c
  rw[c];by_cases d:s'.2<9223372036854775808
  ·rw[if_pos d,aa (show s'.1=s'.2/9223372036854775808 by omega)];simp only[aE,an,aj];rw[show s'.2=iz l by omega]
  ·rw[if_neg d,aa (show s'.1=(s'.2-18446744073709551616)/9223372036854775808 by omega)];simp only[aE,an,aj];rw[show s'.2-18446744073709551616=iz l by omega]
 ·have c':¬(-9223372036854775808≤iz l∧iz l<9223372036854775808):=by simpa[wj] using c
  rw[Bool.not_eq_true] at c;rw[c];by_cases d:s'.2<9223372036854775808
  ·rw[if_pos d,ab (show¬s'.1=s'.2/9223372036854775808 by omega)];rfl
  ·rw[if_neg d,ab (by grind)];rfl
theorem VY {x}(h:0≤x):yJ .u64 x 4294967295=x%4294967296:=by
 obtain⟨n,rfl⟩:=Int.eq_ofNat_of_zero_le h;unfold yJ sn;rw[pz];have e1:(BitVec.ofInt IntKind.u64.bits (n:Int)&&&BitVec.ofInt IntKind.u64.bits 4294967295).toNat=n%4294967296:=by
  rw[BitVec.toNat_and,BitVec.toNat_ofInt,BitVec.toNat_ofInt];have e2:((4294967295:Int)%((2^IntKind.u64.bits:Nat):Int)).toNat=2^32-1:=by decide
  rw[e2,Nat.and_two_pow_sub_one_eq_mod];have e3:((n:Int)%((2^IntKind.u64.bits:Nat):Int)).toNat=n%18446744073709551616:=by
   rfl
  omega
 grind
theorem vU3 x:shr .u64 x 32=x/4294967296:=by
 show x.fdiv (2^(min 32 64))=_;grind
theorem vGg {a1 a0 b1 b0:Int}:(a1*4294967296+a0)*(b1*4294967296+b0)=a1*b1*18446744073709551616+(a1*b0+a0*b1)*4294967296+a0*b0:=by
 grind
theorem vX {a b A B:Int}(h0:0≤a)(h1:a≤A)(g0:0≤b)(g1:b≤B):0≤a*b∧a*b≤A*B:=
 ⟨Int.mul_nonneg h0 g0,Int.mul_le_mul h1 g1 g0 (by omega)⟩
theorem yK3 (k:Nat){x y:Int}(hx:0≤x∧x<18446744073709551616)(hy:0≤y∧y<18446744073709551616):JB k x y=some (x*y/18446744073709551616,x*y%18446744073709551616):=by
 unfold JB;simp only[vU3,VY hx.1,VY hy.1,pz];obtain⟨a1,h1⟩:∃a,x/4294967296=a:=⟨_,rfl⟩;obtain⟨a0,h0⟩:∃a,x%4294967296=a:=⟨_,rfl⟩;obtain⟨b1,g1⟩:∃a,y/4294967296=a:=⟨_,rfl⟩;obtain⟨b0,g0⟩:∃a,y%4294967296=a:=⟨_,rfl⟩;have hxe:x=a1*4294967296+a0:=by omega
 have hye:y=b1*4294967296+b0:=by omega
 rw[h1,h0,g1,g0];have Oc:0≤a1∧a1≤4294967295:=by omega
 have mP:0≤a0∧a0≤4294967295:=by omega
 have eF:0≤b1∧b1≤4294967295:=by omega
 have ET:0≤b0∧b0≤4294967295:=by omega
 have p11:=vX Oc.1 Oc.2 eF.1 eF.2;have tp:=vX Oc.1 Oc.2 ET.1 ET.2;have p01:=vX mP.1 mP.2 eF.1 eF.2;have p00:=vX mP.1 mP.2 ET.1 ET.2;have NF:x*y=a1*b1*18446744073709551616+(a1*b0+a0*b1)*4294967296+a0*b0:=by rw[hxe,hye,vGg]
 rw[NF];generalize a1*b1=u at*
 generalize a1*b0=v at*
 generalize a0*b1=s at*
 generalize a0*b0=t at*
 have c1:(t%18446744073709551616)=t:=by omega
 have c2:(v%18446744073709551616+t/4294967296)%18446744073709551616=v+t/4294967296:=by omega
 rw[c1,c2];have JC:yJ .u64 (v+t/4294967296) 4294967295=(v+t/4294967296)%4294967296:=VY (by omega);rw[JC];refine congrArg some (Prod.ext ?_ ?_)
 ·show _%_=_/_;omega
 ·rfl
theorem vEj k {x}(hx:0≤x∧x<18446744073709551616):Od k 0 x 10000=some (x/10000,x%10000):=by
 unfold Od;have e1:decide ((10000:Int)=0)=false:=rfl;have e2:decide ((10000:Int)≤0)=false:=rfl;simp[pz];grind
def tI (price many cut:Int):Int:=price*many*(10000-cut)/10000
theorem yHk {p m c}(hp:0≤p∧p≤1048576)(hm:0≤m∧m≤1099511627776)(hc:0≤c∧c≤10000):0≤tI p m c∧tI p m c≤1152921504606846976:=by
 have h1:=vX hp.1 hp.2 hm.1 hm.2;have h2:=vX h1.1 h1.2 (by grind) (show 10000-c≤10000 by omega);unfold tI;omega
theorem vUs k {p m c}(hp:0≤p∧p≤1048576)(hm:0≤m∧m≤1099511627776)(hc:0≤c∧c≤10000):Oe k p m c=some (tI p m c,true):=by
 unfold Oe VZ;have w1:zA (10000-c)=10000-c:=zO (by omega) (by omega);have e1:decide (p<0)=false:=ab (by omega);have e2:decide (m<0)=false:=ab (by omega);have e3:decide (c≥0)=true:=aa (by omega);have e4:decide (c≤10000)=true:=aa (by omega);have u1:p%18446744073709551616=p:=by omega
 have u2:m%18446744073709551616=m:=by omega
 have u3:(10000-c)%18446744073709551616=10000-c:=by omega
 have h1:=vX hp.1 hp.2 hm.1 hm.2;have hP:p*m/18446744073709551616=0:=by omega
 have hP2:p*m%18446744073709551616=p*m:=by omega
 have t0:Int.tmod 0 10000=0:=by simp
 have t1:Int.tdiv 0 10000=0:=by simp
 rw[e1,e2,e3,e4,an,an,aj,ae,aE,an,pz p,pz m,u1,u2,yK3 k (by grind) (by grind),ae,hP,hP2];dsimp only;rw[t0,t1,vEj k (by grind),ae];dsimp only;rw[w1,pz (10000-c),u3];unfold tI;obtain⟨l,hl⟩:∃l,10000-c=l:=⟨_,rfl⟩;rw[hl];obtain⟨P,hPe⟩:∃P,p*m=P:=⟨_,rfl⟩;rw[hPe] at h1⊢;have dK:0≤l∧l≤10000:=by omega
 rw[yK3 k (by grind) (by grind)];have hq:=vX (show 0≤P/10000 by omega) (show P/10000≤115292150460684 by omega) dK.1 dK.2;have hr:=vX (show 0≤P%10000 by omega) (show P%10000≤9999 by omega) dK.1 dK.2;have AO:P*l=P/10000*l*10000+P%10000*l:=by
  grind
 rw[AO];generalize P/10000*l=a at*
 generalize P%10000*l=b at*
 have v1:a/18446744073709551616=0:=by omega
 have v2:a%18446744073709551616=a:=by omega
 have v3:b%18446744073709551616=b:=by omega
 have v4:Int.tdiv b 10000=b/10000:=Int.tdiv_eq_ediv_of_nonneg hr.1;have v5:b/10000%18446744073709551616=b/10000:=by omega
 have ha:C7 k a (b/10000) 0=some (a+b/10000,0):=by
  have n1:(Int.ofNat ((a.toNat+(b/10000).toNat+0)%18446744073709551616))=a+b/10000:=by rw[Int.ofNat_eq_natCast];omega
  have n2:(Int.ofNat ((a.toNat+(b/10000).toNat+0)/18446744073709551616))=0:=by rw[Int.ofNat_eq_natCast];omega
  unfold C7;rw[aa rfl,aj,n1,n2]
 rw[ae];dsimp only;rw[v1,v2,pz b,v3,v4,pz (b/10000),v5,ha,ae];dsimp only;have z1:IntKind.wrap .u64 0=0:=by rw[pz];omega
 have z2:IntKind.wrap .u64 (0+0)=0:=by rw[pz];omega
 have z5:zA (a+b/10000)=a+b/10000:=zO (by omega) (by omega);grind
abbrev oq:=Int×Int
abbrev tJ:oq:=(0,0)
def nq (sa:List oq)(pr h:AC)(i:Nat):Int:=tI (pr.getD i 0) (h.getD i 0) (sa.getD i tJ).2
def ot (sa:List oq)(pr h:AC):Int:=qI (nq sa pr h) sa.length
structure kx (sa:List oq) (pr h:AC):Prop where
 n3:sa.length≤3
 pl:pr.length=sa.length
 hl:h.length=sa.length
 cut:∀i,i<sa.length→0≤(sa.getD i tJ).2∧(sa.getD i tJ).2≤10000
 price:∀i,i<sa.length→0≤pr.getD i 0∧pr.getD i 0≤1048576
 hold:∀i,i<sa.length→0≤h.getD i 0∧h.getD i 0≤1099511627776
theorem JD {sa pr h}(L:kx sa pr h){i}(hi:i<sa.length):0≤nq sa pr h i∧nq sa pr h i≤1152921504606846976:=yHk (L.price i hi) (L.hold i hi) (L.cut i hi)
theorem V0 g:∀n,iz ((List.range n).map g)=qI g n
 |0=>rfl
 |n+1=>by
  rw[List.range_succ,List.map_append];unfold iz;rw[lD];have:=V0 g n;unfold iz at this;rw[this];show qI g n+(g n+0)=qI g n+g n;omega
theorem Of {g A}:∀{n},(∀j,j<n→0≤g j∧g j≤A)→0≤qI g n∧qI g n≤n*A
 |0,_=>by simp[qI]
 |n+1,h=>by
  have h1:=Of (n:=n) (fun j hj=>h j (by omega));have h2:=h n (by omega);have h3:((n+1:Nat):Int)*A=n*A+A:=by grind
  show 0≤qI g n+g n∧qI g n+g n≤_;omega
theorem V1 {k:Nat}{sa:List oq}{pr h:AC}(L:kx sa pr h)(hk:10≤k):EU k k pr h sa sa.length 0 []=some (.inl ((List.range sa.length).map (nq sa pr h))):=by
 have hn:=L.n3;obtain ⟨s', h1, h2⟩ := yS (L := fun n i (s : AC) => EU k n pr h sa sa.length i s) (N := sa.length) (fun s => .inl s) (fun i s => s = (List.range i).map (nq sa pr h)) (fun n s _=>by
  show EV k _ pr h sa sa.length sa.length s=_;unfold EV;simp only [qU, ab (Nat.lt_irrefl _), an]) (fun n i s hi hs=>by
  refine⟨s++[nq sa pr h i],?_,?_⟩
  ·show EV k _ pr h sa sa.length i s=_;unfold EV;have eG:s.length≤3:=by rw[hs,List.length_map,List.length_range];omega
   have hw:=vUs k (L.price i hi) (L.hold i hi) (L.cut i hi);simp only[qU,qC,aq,aa hi,aa (show i<pr.length by rw[L.pl];exact hi),aa (show i<h.length by rw[L.hl];exact hi),aj,qE hi (show sa.length<9223372036854775808 by omega)];rw[hw];simp only[ae,aE,an,qH (show(s.length+1)*8≤140737488355328 by omega) (show s.length+1≤140737488355328 by omega),aj];rfl
  ·rw[hs,List.range_succ,List.map_append];rfl) (s:=[]) (show sa.length<k by omega) rfl
 have fW:EU k k pr h sa sa.length 0 []=_:=h1;rw[fW,h2]
theorem V2 {k sa pr h}(L:kx sa pr h)(hk:10≤k):rL k sa pr h=some (ot sa pr h,true):=by
 have hn:=L.n3;have hb:=Of (g:=nq sa pr h) (n:=sa.length) (fun j hj=>JD L hj);unfold rL;have e1:decide ((pr.length:Int)=(sa.length:Int))=true:=aa (by rw[L.pl]);have e2:decide ((h.length:Int)=(sa.length:Int))=true:=aa (by rw[L.hl]);simp[e1,e2];rw[V1 L hk];simp;rw [yHq (by grind) (by grind) (fun i hi=>by
  rw[List.length_map,List.length_range] at hi;have:=JD L hi;grind)]
 rw[V0];have e3:wj (qI (nq sa pr h) sa.length)=true:=by
  unfold wj;grind
 rw[e3];rfl
theorem EW {sa pr h}(L:kx sa pr h):0≤ot sa pr h:=(Of (g:=nq sa pr h) (n:=sa.length) (fun j hj=>JD L hj)).1
theorem yGv {k l}(hl:l.length≤1000){i}(h0:0≤i)(h1:i<l.length) v:pA k l i v=some (l.set i.toNat v):=by
 unfold pA;have e2:pq k l=some l:=by
  unfold pq;rw[qH (by omega) (by omega)];rfl
 simp[e2,aa (show i≥0 by omega),aa h1,aj,wT h0 h1]
theorem Og {a b m p l r}(hb:wM a b m p)(h:rH a b m p l r):
  qI (fun i=>(r.1.getD i ad).1) a.length=qI (fun i=>(a.getD i ad).1) a.length∧wM r.1 r.2.1 r.2.2.1 r.2.2.2.1∧(r.2.2.2.2=0∨(r.1=a∧r.2.1=b∧r.2.2.1=m∧r.2.2.2.1=p)):=by
 by_cases c:vY a.length l
 ·obtain⟨a',p',x,e⟩:=h.1 c;cases hi:mr a' b m p' with
  |false=>
   simp_all
  |true=>
   rw[hi] at e;subst e;refine⟨?_,Ns.1 hi,.inl rfl⟩;have e1:qI (fun i=>(a'.getD i ad).1) a.length=qI (fun i=>(a.getD i ad).1+zP (gB i) l) a.length:=rE fun j hj=>by rw[x.acct j hj]
   show qI (fun i=>(a'.getD i ad).1) a.length=_;rw[e1,Da,M7];have e2:zP (fun p=>qI (fun j=>gB j p) a.length) l=zP (fun _=>(0:Int)) l:=M6 fun p hp=>by
    obtain⟨f0,f1,t0,t1,ne,a1,a2,c1,c3⟩:=c.1 p hp;obtain⟨f,hf⟩:∃f:Nat,p.2.1=f:=⟨p.2.1.toNat,by omega⟩;obtain⟨t,ht⟩:∃t:Nat,p.2.2.1=t:=⟨p.2.2.1.toNat,by omega⟩;have g1:∀j,gB j p=(if j=t then p.2.2.2.1 else 0)+(if j=f then-p.2.2.2.1 else 0):=by
     unfold gB;omega
    rw[rE fun j _=>g1 j,Da,zx,zx,if_pos (by omega),if_pos (by omega)];omega
   have e3:∀l:List zH,zP (fun _:zH=>(0:Int)) l=0:=by
    intro l
    induction l with
    |nil=>rfl
    |cons p l ih=>show 0+zP _ l=0;omega
   simp_all
 ·have e:=h.2 c;simp_all
abbrev BT:=List qY×EQ×AC×EQ
def qP (B:BT):Prop:=wM B.1 B.2.1 B.2.2.1 B.2.2.2
theorem EX {k}(hk:100<k){B}(h:qP B){l:List zH}(hl:l.length≤80):
  ∃r,pw k B.1 B.2.1 B.2.2.1 B.2.2.2 l=some r∧Az k B.1 B.2.1 B.2.2.1 B.2.2.2 l=some r∧rH B.1 B.2.1 B.2.2.1 B.2.2.2 l r:=by
 obtain⟨r,h1,h2⟩:=NG hk h hl;obtain⟨r',h3,h4⟩:=Vf hk h hl;have:=h2.same h4;simp_all
def wk (B:BT)(l:List zH):Bool:=wc B.1 B.2.1 B.2.2.1 B.2.2.2 l
def hZ (k:Nat)(B:BT)(l:List zH):Option BT:=match pw k B.1 B.2.1 B.2.2.1 B.2.2.2 l with
 |some r=>bif decide (r.2.2.2.2=0)&&wk B l then some (r.1,r.2.1,r.2.2.1,r.2.2.2.1) else none
 |none=>none
theorem rM {k}(hk:100<k){B C}(h:qP B){l}(hl:l.length≤80)(hg:hZ k B l=some C):qP C∧C.1.length=B.1.length:=by
 obtain⟨r,h1,h2,h3⟩:=EX hk h hl;unfold hZ at hg;rw[h1] at hg;simp only at hg;cases hc:decide (r.2.2.2.2=0)&&wk B l with
 |false=>
  simp_all
 |true=>
  rw[hc] at hg;simp  at hg;subst hg;refine⟨(Og h h3).2.1,?_⟩;by_cases c:vY B.1.length l
  ·obtain⟨a',p',x,e⟩:=h3.1 c;cases hi:mr a' B.2.1 B.2.2.1 p' with
   |false=>simp_all
   |true=>rw[hi] at e;subst e;exact x.al
  ·rw[h3.2 c]
def fE (k:Nat)(B:BT):List zH→Option (zH×BT)
 |[]=>none
 |p::l=>match hZ k B [p] with
  |some C=>some (p,C)
  |none=>fE k B l
theorem AP {k B C p}:∀{l},fE k B l=some (p,C)→p∈l∧hZ k B [p]=some C
 |q::l,h=>by
  unfold fE at h;cases hg:hZ k B [q] with
  |some D=>
   simp_all
  |none=>
   rw[hg] at h;have:=AP h;simp_all
theorem yC1 k B {m:List zH}{i}(hi:i<m.length):fE k B (m.drop i)=match hZ k B [m.getD i pd] with
  |some C=>some (m.getD i pd,C)
  |none=>fE k B (m.drop (i+1)):=by
 rw[List.drop_eq_getElem_cons hi];have e:m.getD i pd=m[i]:=by simp_all
 rw[e];rfl
theorem Oh l t:(wA l t).length≤l.length:=Nat.le_trans (List.length_filter_le _ _) (by grind)
theorem vPg m i (hi:i<m.length):qR m (0+i) (i+1-i)=[m.getD i pd]:=by
 unfold qR;rw[Nat.zero_add,show i+1-i=1 by omega,List.drop_eq_getElem_cons hi,List.getD_eq_getElem?_getD,List.getElem?_eq_getElem hi];rfl
def eN (l:List zH)(id:Int):List zH:=(g9 l id).1
theorem tK {l p}(h:p∈l):(eN l p.1).length+1=l.length∧List.Sublist (eN l p.1) l:=by
 obtain⟨x,hx⟩:=N0 h;unfold eN g9;rw[hx];have:=(ku hx).1;refine⟨?_,tG l x⟩;rw[nn this];omega
theorem EY {l t p}(h:p∈wA l t):p∈l:=(List.mem_filter.1 (List.mem_filter.1 h).1).1
inductive gA (k:Nat) (t:Int):BT→List zH→List zH→BT→List zH→Prop
 |stop {B:BT} {l:List zH} (h:fE k B (wA l t)=none):gA k t B l [] B l
 |step {B C D:BT} {l m done:List zH} {p:zH} (h:fE k B (wA l t)=some (p,C)) (h':gA k t C (eN l p.1) done D m):gA k t B l (p::done) D m
theorem yVk {k}(hk:100<k){B}(h:qP B){l:List zH}(hl:l.length≤80):AH k B.1 B.2.1 B.2.2.1 B.2.2.2 l=some (wk B l):=vXk hk h hl
theorem yA8 {k}(hk:100<k){B}(h:qP B)(m:List zH)(hm:m.length≤1000):∀c i n,i+c=m.length→c<n→
  JE k n m.length i B.1 B.2.1 B.2.2.1 B.2.2.2 0 0 0 0 0 0 0 m = some (match fE k B (m.drop i) with
   |some (p,C)=>.inr (true,p.1,p.2.1,p.2.2.1,p.2.2.2.1,p.2.2.2.2.1,p.2.2.2.2.2.1,p.2.2.2.2.2.2,C.1,C.2.1,C.2.2.1,C.2.2.2)
   |none=>.inl (B.1,B.2.1,B.2.2.1,B.2.2.2,0,0,0,0,0,0,0))
 |0,i,n,e,hn=>by
  obtain⟨n,rfl⟩:∃x,n=x+1:=⟨n-1,by omega⟩;have:i=m.length:=by omega
  subst this;show EZ k _ m.length m.length B.1 B.2.1 B.2.2.1 B.2.2.2 0 0 0 0 0 0 0 m=_;unfold EZ;simp;rfl
 |c+1,i,n,e,hn=>by
  obtain⟨n,rfl⟩:∃x,n=x+1:=⟨n-1,by omega⟩;have hi:i<m.length:=by omega
  have ih:=yA8 hk h m hm c (i+1) n (by omega) (by omega);show EZ k _ m.length i B.1 B.2.1 B.2.2.1 B.2.2.2 0 0 0 0 0 0 0 m=_;unfold EZ;obtain⟨r,h1,h2,h3⟩:=EX hk h (l:=[m.getD i pd]) (by simp);have hf:=yVk hk h (l:=[m.getD i pd]) (by simp);simp[qC,qE hi (by grind)];rw[yC1 k B hi];unfold hZ;grind
def yEw (B:BT)(x:Option (zH×BT)):Int×Int×Int×Int×Int×Int×Int×(List (Int×Int×Int))×EQ×AC×EQ×Bool:=match x with
 |some (p,C)=>(p.1,p.2.1,p.2.2.1,p.2.2.2.1,p.2.2.2.2.1,p.2.2.2.2.2.1,p.2.2.2.2.2.2,C.1,C.2.1,C.2.2.1,C.2.2.2,true)
 |none=>(0,0,0,0,0,0,0,B.1,B.2.1,B.2.2.1,B.2.2.2,false)
theorem vVf {k}(hk:100<k){B}(h:qP B){l}(bL:l.length<k)(hl:qT l)(hd:qN l) t:Oi k B.1 B.2.1 B.2.2.1 B.2.2.2 l t=some (yEw B (fE k B (wA l t))):=by
 unfold Oi;rw[yF8 bL hl hd];have E0:=Oh l t;unfold qT at hl;have:=yA8 hk h (wA l t) (by omega) (wA l t).length 0 k (by omega) (by omega);have e:((0:Nat):Int)=0:=rfl;rw[e,List.drop_zero] at this;simp;rw[this];cases fE k B (wA l t) with
 |none=>rfl
 |some x=>rfl
theorem yS8 {k}(hk:100<k) t:∀n B (l r:List zH),qP B→qN l→l.length≤100→l.length<n→r.length+l.length≤1000→
  ∃(C:BT) (m done:List zH),JF k n t l B.1 B.2.1 B.2.2.1 B.2.2.2 r=some (m,C.1,C.2.1,C.2.2.1,C.2.2.2,r++done)∧gA k t B l done C m∧qP C∧C.1.length=B.1.length∧List.Sublist m l
 |n+1,B,l,r,hb,hd,hl,hn,hr=>by
  have h1:=vVf hk hb (l:=l) (by omega) (by show l.length≤1000;omega) hd t;cases hx:fE k B (wA l t) with
  |none=>
   rw[hx] at h1;refine⟨B,l,[],?_,.stop hx,hb,rfl,by simp⟩;show E1 k _ t l B.1 B.2.1 B.2.2.1 B.2.2.2 r=_;unfold E1;rw[h1];simp only[ae,yEw,cp,aj,List.append_nil]
  |some x=>
   obtain⟨p,C⟩:=x;rw[hx] at h1;obtain⟨hp,hg⟩:=AP hx;have CC:=EY hp;obtain⟨sG,mR⟩:=tK CC;obtain⟨pc,dp⟩:=rM hk hb (by simp) hg;obtain⟨D,m,done,g1,g3,g4,g5,g6⟩:=yS8 hk t n C (eN l p.1) (r++[p]) pc (List.Pairwise.sublist mR hd) (by omega) (by omega) (by grind);refine⟨D,m,p::done,?_,.step hx g3,g4,by grind,g6.trans mR⟩;show E1 k _ t l B.1 B.2.1 B.2.2.1 B.2.2.2 r=_;unfold E1;rw[h1];simp[AL (show l.length<k by omega) (show qT l by show l.length≤1000;omega),nk (show r.length≤1000 by omega)];rw[List.append_cons r p done,←g1];rfl
theorem vVb {k}(hk:200≤k){B}(hb:qP B){l}(hd:qN l)(hl:l.length≤100) t:
  ∃(C:BT) (m done:List zH),Oj k B.1 B.2.1 B.2.2.1 B.2.2.2 l t=some (C.1,C.2.1,C.2.2.1,C.2.2.2,m,done)∧gA k t B l done C m∧qP C∧C.1.length=B.1.length∧List.Sublist m l:=by
 obtain⟨C,m,done,h1,h3⟩:=yS8 (show 100<k by omega) t k B l [] hb hd hl (by omega) (by grind);refine⟨C,m,done,?_,h3⟩;unfold Oj;simp_all
def pB (p q:zH):Bool:=decide (q.2.1=p.2.2.1)&&(decide (q.2.2.1=p.2.1)&& !decide (p.2.1≥q.2.1))
def ou (k:Nat)(B:BT)(p:zH):List zH→Option (zH×BT)
 |[]=>none
 |q::l=>match(bif pB p q then hZ k B [p,q] else none) with
  |some C=>some (q,C)
  |none=>ou k B p l
def rN (k:Nat)(B:BT)(m:List zH):List zH→Option (zH×zH×BT)
 |[]=>none
 |p::l=>match ou k B p m with
  |some (q,C)=>some (p,q,C)
  |none=>rN k B m l
theorem V3 {k B C p q}:∀{l},ou k B p l=some (q,C)→q∈l∧pB p q=true∧hZ k B [p,q]=some C
 |r::l,h=>by
  unfold ou at h;cases hd:pB p r with
  |false=>
   rw[hd] at h;have:=V3 (l:=l) h;simp_all
  |true=>
   rw[hd] at h;cases hg:hZ k B [p,r] with
   |some D=>
    simp_all
   |none=>
    rw[hg] at h;have:=V3 (l:=l) h;simp_all
theorem Ol {k B C p q m}:∀{l},rN k B m l=some (p,q,C)→p∈l∧q∈m∧pB p q=true∧hZ k B [p,q]=some C
 |r::l,h=>by
  unfold rN at h;cases hq:ou k B r m with
  |some x=>
   rw[hq] at h;cases h;exact⟨by simp,V3 hq⟩
  |none=>
   rw[hq] at h;have:=Ol (l:=l) h;simp_all
theorem yNq {α:Type}{l:List α}{i} h d:l.getD i d=l[i]:=by
 simp_all
theorem vC2 k B p {m:List zH}{i}(hi:i<m.length):ou k B p (m.drop i)=match(bif pB p (m.getD i pd) then hZ k B [p,m.getD i pd] else none) with
  |some C=>some (m.getD i pd,C)
  |none=>ou k B p (m.drop (i+1)):=by
 rw[List.drop_eq_getElem_cons hi,yNq hi];rfl
theorem yUb k B r {m:List zH}{i}(hi:i<m.length):rN k B r (m.drop i)=match ou k B (m.getD i pd) r with
  |some (q,C)=>some (m.getD i pd,q,C)
  |none=>rN k B r (m.drop (i+1)):=by
 rw[List.drop_eq_getElem_cons hi,yNq hi];rfl
def fx (k:Nat)(B:BT)(l:List zH)(t:Int):Option (zH×zH×BT):=rN k B (wA l t) (wA l t)
theorem vRr {l x q}(hx:x<l.length)(h:q∈l)(bp:q≠l.getD x pd):q∈yC l x:=by
 unfold yC;have e:=NZ l x pd hx;grind
theorem qN.eq_of {l}(h:qN l){p q}(hp:p∈l)(hq:q∈l)(e:p.1=q.1):p=q:=by
 obtain⟨i,hi,ei⟩:=List.getElem_of_mem hp;obtain⟨j,hj,ej⟩:=List.getElem_of_mem hq;have hl:=List.pairwise_iff_getElem.1 h;grind
theorem V4 {l p q}(hp:p∈l)(hq:q∈l)(bp:q.1≠p.1):q∈eN l p.1:=by
 obtain⟨x,hx⟩:=N0 hp;unfold eN g9;rw[hx];have:=ku hx;exact vRr this.1 hq (by grind)
def AQ (l:List zH)(p q:zH):List zH:=eN (eN l p.1) q.1
theorem E2 {k B C l t p q}(h:fx k B l t=some (p,q,C)):p∈l∧q∈l∧pB p q=true∧hZ k B [p,q]=some C:=by
 obtain⟨h1,h2,h3⟩:=Ol h;exact⟨EY h1,EY h2,h3⟩
theorem yL7 {l}(hd:qN l){p q}(hp:p∈l)(hq:q∈l)(h:pB p q=true):q.1≠p.1:=by
 intro e;have:=hd.eq_of hq hp e;subst this;unfold pB at h;simp at h
theorem E3 {l}(hd:qN l){p q}(hp:p∈l)(hq:q∈l)(h:pB p q=true):(AQ l p q).length+2=l.length∧List.Sublist (AQ l p q) l:=by
 obtain⟨h1,h2⟩:=tK hp;obtain⟨h3,h4⟩:=tK (V4 hp hq (yL7 hd hp hq h));unfold AQ;exact⟨by omega,h4.trans h2⟩
inductive jT (k:Nat) (t:Int):BT→List zH→List zH→BT→List zH→Prop
 |stop {B:BT} {l:List zH} (h:fx k B l t=none):jT k t B l [] B l
 |step {B C D:BT} {l m done:List zH} {p q:zH} (h:fx k B l t=some (p,q,C)) (h':jT k t C (AQ l p q) done D m):jT k t B l (p::q::done) D m
theorem jT.length {k t B C l done m}(h:jT k t B l done C m)(hd:qN l):done.length+m.length=l.length∧done.length%2=0:=by
 induction h with
 |stop _=>simp
 |step h _ ih=>
  obtain⟨hp,hq,ow,_⟩:=E2 h;obtain⟨h1,h2⟩:=E3 hd hp hq ow;have:=ih (List.Pairwise.sublist h2 hd);grind
theorem jT.sub {k t B C l done m}(h:jT k t B l done C m)(hd:qN l):List.Sublist m l:=by
 induction h with
 |stop _=>simp
 |step h _ ih=>
  obtain⟨hp,hq,ow,_⟩:=E2 h;obtain⟨h1,h2⟩:=E3 hd hp hq ow;exact(ih (List.Pairwise.sublist h2 hd)).trans h2
theorem yCf {k}(hk:100<k){B}(h:qP B)(m:List zH)(hm:m.length≤1000) p dG cJ:∀c i n,i+c=m.length→c<n→
  JG k n dG cJ m.length i B.1 B.2.1 B.2.2.1 B.2.2.2 0 0 0 0 0 0 0 0 0 0 0 0 0 0 m p.1 p.2.1 p.2.2.1 p.2.2.2.1 p.2.2.2.2.1 p.2.2.2.2.2.1 p.2.2.2.2.2.2 = some (match ou k B p (m.drop i) with
   |some (q,C)=>.inr (true,p.1,p.2.1,p.2.2.1,p.2.2.2.1,p.2.2.2.2.1,p.2.2.2.2.2.1,p.2.2.2.2.2.2,q.1,q.2.1,q.2.2.1,q.2.2.2.1,q.2.2.2.2.1,q.2.2.2.2.2.1,q.2.2.2.2.2.2,C.1,C.2.1,C.2.2.1,C.2.2.2)
   |none=>.inl (dG,cJ,B.1,B.2.1,B.2.2.1,B.2.2.2,0,0,0,0,0,0,0,0,0,0,0,0,0,0,m))
 |0,i,n,e,hn=>by
  obtain⟨n,rfl⟩:∃x,n=x+1:=⟨n-1,by omega⟩;have:i=m.length:=by omega
  subst this;show E4 k _ dG cJ m.length m.length B.1 B.2.1 B.2.2.1 B.2.2.2 0 0 0 0 0 0 0 0 0 0 0 0 0 0 m p.1 p.2.1 p.2.2.1 p.2.2.2.1 p.2.2.2.2.1 p.2.2.2.2.2.1 p.2.2.2.2.2.2=_;unfold E4;simp;rfl
 |c+1,i,n,e,hn=>by
  obtain⟨n,rfl⟩:∃x,n=x+1:=⟨n-1,by omega⟩;have hi:i<m.length:=by omega
  have ih:=yCf hk h m hm p dG cJ c (i+1) n (by omega) (by omega);show E4 k _ dG cJ m.length i B.1 B.2.1 B.2.2.1 B.2.2.2 0 0 0 0 0 0 0 0 0 0 0 0 0 0 m p.1 p.2.1 p.2.2.1 p.2.2.2.1 p.2.2.2.2.1 p.2.2.2.2.2.1 p.2.2.2.2.2.2=_;unfold E4;obtain⟨r,h1,h2,h3⟩:=EX hk h (l:=[p,m.getD i pd]) (by simp);have hf:=yVk hk h (l:=[p,m.getD i pd]) (by simp);have fW:pw k B.1 B.2.1 B.2.2.1 B.2.2.2 [(p.1,p.2.1,p.2.2.1,p.2.2.2.1,p.2.2.2.2.1,p.2.2.2.2.2.1,p.2.2.2.2.2.2),m.getD i (0,(0,(0,(0,(0,(0,0))))))]=some r:=h1;have dY:AH k B.1 B.2.1 B.2.2.1 B.2.2.2 [(p.1,p.2.1,p.2.2.1,p.2.2.2.1,p.2.2.2.2.1,p.2.2.2.2.2.1,p.2.2.2.2.2.2),m.getD i (0,(0,(0,(0,(0,(0,0))))))]=some (wk B [p,m.getD i pd]):=hf;simp only[qC,qE hi (by grind),qU,aq,aa hi];rw[vC2 k B p hi];unfold pB;cases decide ((m.getD i pd).2.1=p.2.2.1) with
  |false=>exact ih
  |true=>
   cases decide ((m.getD i pd).2.2.1=p.2.1) with
   |false=>exact ih
   |true=>
    cases decide (p.2.1≥(m.getD i pd).2.1) with
    |true=>exact ih
    |false=>
     unfold hZ;grind
theorem yTw {k}(hk:100<k){B}(h:qP B)(m:List zH)(hm:m.length≤1000)(JH:m.length<k):∀c i n,i+c=m.length→c<n→
  JI k n m.length i B.1 B.2.1 B.2.2.1 B.2.2.2 0 0 0 0 0 0 0 0 0 0 0 0 0 0 m = some (match rN k B m (m.drop i) with
   |some (p,q,C)=>.inr (true,p.1,p.2.1,p.2.2.1,p.2.2.2.1,p.2.2.2.2.1,p.2.2.2.2.2.1,p.2.2.2.2.2.2,q.1,q.2.1,q.2.2.1,q.2.2.2.1,q.2.2.2.2.1,q.2.2.2.2.2.1,q.2.2.2.2.2.2,C.1,C.2.1,C.2.2.1,C.2.2.2)
   |none=>.inl (0,0,0,0,0,0,0,0,0,0,0,0,0,0))
 |0,i,n,e,hn=>by
  obtain⟨n,rfl⟩:∃x,n=x+1:=⟨n-1,by omega⟩;have:i=m.length:=by omega
  subst this;show E5 k _ m.length m.length B.1 B.2.1 B.2.2.1 B.2.2.2 0 0 0 0 0 0 0 0 0 0 0 0 0 0 m=_;unfold E5;simp;rfl
 |c+1,i,n,e,hn=>by
  obtain⟨n,rfl⟩:∃x,n=x+1:=⟨n-1,by omega⟩;have hi:i<m.length:=by omega
  have ih:=yTw hk h m hm JH c (i+1) n (by omega) (by omega);show E5 k _ m.length i B.1 B.2.1 B.2.2.1 B.2.2.2 0 0 0 0 0 0 0 0 0 0 0 0 0 0 m=_;unfold E5;have eZ:=yCf hk h m hm (m.getD i pd) m.length i m.length 0 k (by omega) JH;have e0:((0:Nat):Int)=0:=rfl;rw[e0,List.drop_zero] at eZ;simp only[qC,qU,aq,aa hi];rw[eZ];rw[yUb k B m hi];cases ou k B (m.getD i (0,(0,(0,(0,(0,(0,0))))))) m with
  |none=>
   simp[qE hi (by grind)];exact ih
  |some x=>rfl
def V5 (x:Option (zH×zH×BT)):Int×Int×Int×Int×Int×Int×Int×Int×Int×Int×Int×Int×Int×Int×(List (Int×Int×Int))×EQ×AC×EQ×Bool:=match x with
 |some (p,q,C)=>(p.1,p.2.1,p.2.2.1,p.2.2.2.1,p.2.2.2.2.1,p.2.2.2.2.2.1,p.2.2.2.2.2.2,q.1,q.2.1,q.2.2.1,q.2.2.2.1,q.2.2.2.2.1,q.2.2.2.2.2.1,q.2.2.2.2.2.2,C.1,C.2.1,C.2.2.1,C.2.2.2,true)
 |none=>(0,0,0,0,0,0,0,0,0,0,0,0,0,0,[],[],[],[],false)
theorem vU8 {k}(hk:100<k){B}(h:qP B){l}(bL:l.length<k)(hl:qT l)(hd:qN l) t:Om k B.1 B.2.1 B.2.2.1 B.2.2.2 l t=some (V5 (fx k B l t)):=by
 unfold Om fx;rw[yF8 bL hl hd];have E0:=Oh l t;unfold qT at hl;have:=yTw hk h (wA l t) (by omega) (by omega) (wA l t).length 0 k (by omega) (by omega);have e:((0:Nat):Int)=0:=rfl;rw[e,List.drop_zero] at this;simp;rw[this];cases rN k B (wA l t) (wA l t) with
 |none=>rfl
 |some x=>rfl
theorem vQ4 {k}(hk:3≤k) t (l:List zH)(hl:l.length≤1000)(tn:l.length<k)(C:BT)(r:List zH)(hr:r.length≤900)(p q:zH):
  wm k k t l 2 0 C.1 C.2.1 C.2.2.1 C.2.2.2 r [p,q]=some (t,AQ l p q,C.1,C.2.1,C.2.2.1,C.2.2.2,r++[p,q]):=by
 obtain⟨n,rfl⟩:∃n,k=n+3:=⟨k-3,by omega⟩;have h1:=AL tn (show qT l from hl) p.1;have sG:(eN l p.1).length≤l.length:=by
  unfold eN g9;cases hp:vS l p.1 with
  |none=>simp
  |some x=>exact List.Sublist.length_le (tG l x)
 have h2:=AL (k:=n+3) (l:=eN l p.1) (by omega) (show(eN l p.1).length≤1000 by omega) q.1;have e1:zN (r.length+1) 56=true:=nk (by omega);have e2:zN ((r++[p]).length+1) 56=true:=nk (by grind);show wo (n+3) (wm (n+3) (n+2)) t l 2 0 C.1 C.2.1 C.2.2.1 C.2.2.2 r [p,q]=_;unfold wo;have g0:[p,q].getD (Int.toNat 0) (0,(0,(0,(0,(0,(0,0))))))=p:=rfl;have b0:zB 0 [p,q].length=true:=rfl;have d0:decide ((0:Int)<2)=true:=rfl;have w0:zA (0+1)=1:=by decide
 rw[d0,b0,g0,h1];simp[e1];show wo (n+3) (wm (n+3) (n+1)) t (eN l p.1) 2 1 C.1 C.2.1 C.2.2.1 C.2.2.2 (r++[p]) [p,q]=_;unfold wo;have g1:[p,q].getD (Int.toNat 1) (0,(0,(0,(0,(0,(0,0))))))=q:=rfl;have b1:zB 1 [p,q].length=true:=rfl;have d1:decide ((1:Int)<2)=true:=rfl;have w1:zA (1+1)=2:=by decide
 rw[d1,b1,g1,h2];simp only[e2];show wo (n+3) (wm (n+3) n) t (AQ l p q) 2 2 C.1 C.2.1 C.2.2.1 C.2.2.2 (r++[p]++[q]) [p,q]=_;unfold wo;simp
theorem yNi {k}(hk:100<k) t:∀n B (l r:List zH),qP B→qN l→l.length≤100→l.length<n→r.length+l.length≤900→
  ∃(C:BT) (m done:List zH),JJ k n t l B.1 B.2.1 B.2.2.1 B.2.2.2 r=some (m,C.1,C.2.1,C.2.2.1,C.2.2.2,r++done)∧jT k t B l done C m∧qP C∧C.1.length=B.1.length∧List.Sublist m l
 |n+1,B,l,r,hb,hd,hl,hn,hr=>by
  have h1:=vU8 hk hb (l:=l) (by omega) (by show l.length≤1000;omega) hd t;cases hx:fx k B l t with
  |none=>
   rw[hx] at h1;refine⟨B,l,[],?_,.stop hx,hb,rfl,by simp⟩;show E6 k _ t l B.1 B.2.1 B.2.2.1 B.2.2.2 r=_;unfold E6;rw[h1];simp only[ae,V5,cp,aj,List.append_nil]
  |some x=>
   obtain⟨p,q,C⟩:=x;obtain⟨hp,hq,ow,hg⟩:=E2 hx;obtain⟨sG,mR⟩:=E3 hd hp hq ow;obtain⟨pc,dp⟩:=rM hk hb (by simp) hg;obtain⟨D,m,done,g1,g3,g4,g5,g6⟩:=yNi hk t n C (AQ l p q) (r++[p,q]) pc (List.Pairwise.sublist mR hd) (by omega) (by omega) (by grind);refine⟨D,m,p::q::done,?_,.step hx g3,g4,by grind,g6.trans mR⟩;show E6 k _ t l B.1 B.2.1 B.2.2.1 B.2.2.2 r=_;unfold E6;rw[h1];have hL:=vQ4 (k:=k) (by omega) t l (by omega) (by omega) C r (by omega) p q;simp only[V5,an];simp_all
theorem vT3 {k}(hk:200≤k){B}(hb:qP B){l}(hd:qN l)(hl:l.length≤100) t:
  ∃(C:BT) (m done:List zH),On k B.1 B.2.1 B.2.2.1 B.2.2.2 l t=some (C.1,C.2.1,C.2.2.1,C.2.2.2,m,done)∧jT k t B l done C m∧qP C∧C.1.length=B.1.length∧List.Sublist m l:=by
 obtain⟨C,m,done,h1,h3⟩:=yNi (show 100<k by omega) t k B l [] hb hd hl (by omega) (by grind);refine⟨C,m,done,?_,h3⟩;unfold On;simp_all
def jS (l:List zH)(f:Int):Nat:=(l.filter (wV f)).length
def rO (l:List zH)(many:AC)(i:Nat):Bool:=
 (decide ((l.getD i pd).2.1≥0)&&decide ((l.getD i pd).2.1<(many.length:Int)))&&decide (((jS (l.take i) (l.getD i pd).2.1:Nat):Int)<many.getD (l.getD i pd).2.1.toNat 0)
def mw (l:List zH)(many:AC):Nat→List zH
 |0=>[]
 |i+1=>mw l many i++(bif rO l many i then[l.getD i pd] else[])
def vJ (l:List zH)(many:AC):List zH:=mw l many l.length
theorem vBd l many:∀N,N≤l.length→List.Sublist (mw l many N) (l.take N)
 |0,_=>by simp[mw]
 |N+1,h=>by
  rw[←jW l N pd h];apply List.Sublist.append (vBd l many N (by omega));grind
theorem wq l many:List.Sublist (vJ l many) l:=by
 have:=vBd l many l.length (by simp)
 rwa [List.take_length] at this
def tL (v w:AC):Prop:=v.length=w.length∧∀i,i<w.length→v.getD i 0≤w.getD i 0
def jV (B:BT)(l:List zH):AC:=tE B.1 B.2.1 B.2.2.1 B.2.2.2 l
def eO (s:AC)(m:AC):AC:=s.foldl (fun m i=>m.set i.toNat (m.getD i.toNat 0-1)) m
theorem tM:∀s m,(eO s m).length=m.length
 |[],_=>rfl
 |i::s,m=>by
  show(eO s (m.set i.toNat (m.getD i.toNat 0-1))).length=_;rw[tM s,List.length_set]
theorem yK4:∀(s:List Nat) m,s.Nodup→(∀i∈s,i<m.length)→∀j,(eO (s.map fun(x:Nat)=>(x:Int)) m).getD j 0=m.getD j 0-(if j∈s then 1 else 0)
 |[],m,_,_,j=>by simp[eO]
 |i::s,m,hs,hi,j=>by
  show(eO (s.map fun(x:Nat)=>(x:Int)) (m.set ((i:Int)).toNat (m.getD ((i:Int)).toNat 0-1))).getD j 0=_;rw[aq,yK4 s _ (by grind) (by grind),fj];grind
def tN (B:BT)(l:List zH)(i:Nat):Bool:=gz B.1 B.2.1 B.2.2.1 B.2.2.2 l i
theorem yDf B l {m}(hm:m.length=B.1.length) j:(eO (jV B l) m).getD j 0=m.getD j 0-(if j<B.1.length∧tN B l j=true then 1 else 0):=by
 have:=yK4 ((List.range B.1.length).filter fun i=>tN B l i) m (List.Nodup.sublist List.filter_sublist (by grind)) (by grind) j;unfold jV tE;rw[show(fun i=>gz B.1 B.2.1 B.2.2.1 B.2.2.2 l i)=fun i=>tN B l i from rfl,this];simp
theorem vE7 {B l}:jV B l=[]↔∀j,j<B.1.length→tN B l j=false:=by
 unfold jV tE;rw[List.map_eq_nil_iff,List.filter_eq_nil_iff];constructor
 ·intro h j hj;have:=h j (by grind)
  simpa[tN] using this
 ·intro h i hi;have:=h i (by grind)
  simpa[tN] using this
theorem yXp {l many p}:∀{N},p∈mw l many N→∃i,i<N∧l.getD i pd=p∧rO l many i=true
 |N+1,h=>by
  unfold mw at h;rw[List.mem_append] at h;rcases h with h|h
  ·obtain⟨i,h1,h2⟩:=yXp h;grind
  grind
theorem vTz {B l}(hl:∀q∈l,yH B.1.length q){m j}(h:tN B (vJ l m) j=true):1≤m.getD j 0:=by
 unfold tN gz at h;rw[bb,Bool.not_eq_true'] at h;have hn:=yM7 (n:=B.1.length) (l:=vJ l m) (fun q hq=>hl q ((wq l m).subset hq)) j;rw[h.1] at hn;obtain⟨x,hx,he⟩:=NS.1 hn;obtain⟨i,h1,h2,h3⟩:=yXp (jQ (d:=pd) hx);unfold rO at h3;have NK:(l.getD i pd)=(vJ l m).getD x pd:=h2;grind
inductive ky (B:BT) (l:List zH):AC→AC→Nat→Prop
 |stop {m:AC} (h:jV B (vJ l m)=[]):ky B l m m 0
 |step {m f:AC} {n:Nat} (h:jV B (vJ l m)≠[]) (h':ky B l (eO (jV B (vJ l m)) m) f n):ky B l m f (n+1)
theorem vFt {B l m}(hm:m.length=B.1.length):tL (eO (jV B l) m) m:=by
 refine⟨tM _ _,fun i hi=>?_⟩;rw[yDf B l hm];omega
theorem tL.trans {u v w}(h:tL u v)(h':tL v w):tL u w:=⟨h.1.trans h'.1,fun i hi=>Int.le_trans (h.2 i (by have:=h'.1;omega)) (h'.2 i hi)⟩
theorem tL.refl v:tL v v:=⟨rfl,by simp⟩
theorem ky.le {B l m f n}(h:ky B l m f n)(hm:m.length=B.1.length):tL f m:=by
 induction h with
 |stop _=>exact tL.refl _
 |step _ _ ih=>exact(ih ((tM _ _).trans hm)).trans (vFt hm)
theorem ky.final {B l m f n}(h:ky B l m f n):jV B (vJ l f)=[]:=by
 induction h with
 |stop h=>exact h
 |step _ _ ih=>exact ih
def oz (m:AC):Prop:=∀i,0≤m.getD i 0
theorem Oo {B l}(hl:∀q∈l,yH B.1.length q){m}(hm:m.length=B.1.length)(h0:oz m):oz (eO (jV B (vJ l m)) m):=by
 intro i;rw[yDf B _ hm];have:=h0 i;split
 ·rename_i c;have:=vTz hl c.2;omega
 ·omega
theorem ky.nonneg {B l}(hl:∀q∈l,yH B.1.length q){m f n}(h:ky B l m f n)(hm:m.length=B.1.length)(h0:oz m):oz f:=by
 induction h with
 |stop _=>exact h0
 |step _ _ ih=>exact ih ((tM _ _).trans hm) (Oo hl hm h0)
def my (m:AC):Int:=zP (fun x=>x) m
theorem yFx:∀m i x,i<m.length→my (m.set i x)=my m-m.getD i 0+x
 |y::m,0,x,_=>by
  show x+my m=y+my m-y+x;omega
 |y::m,i+1,x,h=>by
  show y+my (m.set i x)=y+my m-m.getD i 0+x;rw[yFx m i x (by simp_all)];omega
theorem yYr:∀s m,(∀i∈s,0≤i∧i<(m.length:Int))→my (eO s m)=my m-s.length
 |[],m,_=>by simp[eO]
 |i::s,m,h=>by
  have hi:=h i (by simp);show my (eO s (m.set i.toNat (m.getD i.toNat 0-1)))=_;rw[yYr s _ (by grind),yFx _ _ _ (by omega)];grind
theorem V6 {B l}:∀i∈jV B l,0≤i∧i<(B.1.length:Int):=by
 intro i hi;obtain⟨x,hx,rfl⟩:=List.mem_map.1 hi;simp_all
theorem yU6:∀{m},oz m→0≤my m
 |[],_=>Int.le_refl 0
 |x::m,h=>by
  have h1:0≤x:=h 0;have h2:=yU6 (m:=m) (fun i=>h (i+1));show 0≤x+my m;omega
theorem yO6 {B l}(hl:∀q∈l,yH B.1.length q):∀(N:Nat) m,m.length=B.1.length→oz m→my m≤N→∃f n,ky B l m f n∧n≤N
 |N,m,hm,h0,hN=>by
  by_cases c:jV B (vJ l m)=[]
  ·exact⟨m,0,.stop c,by simp⟩
  ·have ht:=yYr (jV B (vJ l m)) m (by rw[hm];exact V6);have hp:0<(jV B (vJ l m)).length:=by grind
   have h1:=Oo hl hm h0;have h2:=yU6 h1;obtain⟨N,rfl⟩:∃x,N=x+1:=⟨N-1,by omega⟩;obtain⟨f,n,h3,h4⟩:=yO6 hl N _ ((tM _ _).trans hm) h1 (by omega);exact⟨f,n+1,.step c h3,by omega⟩
theorem V7 l many:∀N,(mw l many N).length≤N
 |0=>Nat.le_refl _
 |N+1=>by
  unfold mw;have:=V7 l many N;grind
theorem vVo (l:List zH) i (hi:i<l.length) f:jS (l.take (i+1)) f=jS (l.take i) f+(if(l.getD i pd).2.1=f then 1 else 0):=by
 unfold jS;rw[AI _ _ _ pd hi,List.length_append];unfold wV;grind
def gC (l:List zH)(n:Nat):AC:=(List.range n).map fun(i:Nat)=>((jS l i:Nat):Int)
theorem yKa l i:gC l (i+1)=gC l i++[((jS l i:Nat):Int)]:=by
 unfold gC;rw[List.range_succ,List.map_append];rfl
theorem wu l n:(gC l n).length=n:=by
 unfold gC;simp
theorem JK:∀s m i,m.getD i 0-s.length≤(eO s m).getD i 0∧(eO s m).getD i 0≤m.getD i 0
 |[],m,i=>by simp[eO]
 |x::s,m,i=>by
  have h:=JK s (m.set x.toNat (m.getD x.toNat 0-1)) i;rw[fj] at h;have e:eO (x::s) m=eO s (m.set x.toNat (m.getD x.toNat 0-1)):=rfl;rw[e,List.length_cons];by_cases c:x.toNat=i∧x.toNat<m.length
  ·grind
  omega
theorem yH3 (s m:AC) i (hi:i<s.length):eO (s.take (i+1)) m=(eO (s.take i) m).set (s.getD i 0).toNat ((eO (s.take i) m).getD (s.getD i 0).toNat 0-1):=by
 unfold eO;rw[←jW s i 0 hi,List.foldl_append];rfl
theorem yBz g:∀n,zP (fun x=>x) ((List.range n).map g)=qI g n
 |0=>rfl
 |n+1=>by
  rw[List.range_succ,List.map_append,lD,yBz g n];show qI g n+(g n+0)=qI g n+g n;omega
theorem vSl l f:((jS l f:Nat):Int)=zP (fun p:zH=>if p.2.1=f then 1 else 0) l:=by
 induction l with
 |nil=>rfl
 |cons p l ih=>
  unfold jS wV at*
  show _=(if p.2.1=f then(1:Int) else 0)+zP _ l;grind
theorem vKr l n:my (gC l n)≤l.length:=by
 unfold my gC;rw[yBz (fun i:Nat=>((jS l i:Nat):Int)) n,rE (h:=fun j=>zP (fun p:zH=>if p.2.1=(j:Int) then 1 else 0) l) (fun j _=>vSl l j),M7];have := (C9 (A := 1) (l := l) (g := fun p : zH => qI (fun j => if p.2.1 = (j : Int) then 1 else 0) n) (fun p _=>by
  by_cases c:0≤p.2.1
  ·obtain⟨f,hf⟩:∃f:Nat,p.2.1=f:=⟨p.2.1.toNat,by omega⟩;have e:qI (fun j=>if p.2.1=(j:Int) then(1:Int) else 0) n=qI (fun j=>if j=f then 1 else 0) n:=by grind
   rw[e,zx];omega
  ·have e:qI (fun j=>if p.2.1=(j:Int) then(1:Int) else 0) n=qI (fun _=>0) n:=by grind
   rw[e,Uv];omega)).2
 omega
theorem yDz l n i:(gC l n).getD i 0=if i<n then((jS l i:Nat):Int) else 0:=by
 unfold gC;grind
theorem vE9 l f:jS l f≤l.length:=List.length_filter_le _ _
theorem Oq {l}(hl:l.length≤1000) n:oz (gC l n)∧∀i,(gC l n).getD i 0≤1000:=by
 refine⟨fun i=>?_,fun i=>?_⟩
 ·rw[yDz];omega
 ·rw[yDz];have:=vE9 l i;omega
theorem JL {B:BT}{l}(hl:∀q∈l,yH B.1.length q)(bU:l.length≤64) m:vY B.1.length (vJ l m):=
 ⟨fun p hp=>hl p ((wq l m).subset hp),by have:=(wq l m).length_le;omega⟩
def yX (l:List zH)(t:Int):List zH:=l.filter (jk t)
theorem JM {n l t}(h:∀q∈l,yH n q):∀q∈yX l t,yH n q:=fun q hq=>h q (List.mem_filter.1 hq).1
theorem wv l t:(yX l t).length≤l.length:=List.length_filter_le _ _
theorem V8 {B}(hb:qP B){l}(hl:∀q∈l,yH B.1.length q)(bU:l.length≤64) t:
  ∃f n,ky B (yX l t) (gC (yX l t) B.1.length) f n∧n≤(yX l t).length:=by
 have h1:=Oq (l:=yX l t) (by have:=wv l t;omega) B.1.length;have h2:=vKr (yX l t) B.1.length;exact yO6 (JM hl) (yX l t).length _ (wu _ _) h1.1 (by omega)
def oC (l:List zH)(hs:List zH):List zH:=hs.foldl (fun l p=>eN l p.1) l
theorem vS1 l id:(eN l id).length≤l.length∧List.Sublist (eN l id) l:=by
 unfold eN g9;cases vS l id with
 |none=>simp
 |some x=>exact⟨(tG l x).length_le,tG l x⟩
theorem Ot:∀hs l,(oC l hs).length≤l.length∧List.Sublist (oC l hs) l
 |[],l=>⟨Nat.le_refl _,List.Sublist.refl _⟩
 |p::hs,l=>by
  obtain⟨h1,h2⟩:=Ot hs (eN l p.1);obtain⟨h3,h4⟩:=vS1 l p.1;exact⟨Nat.le_trans h1 h3,h2.trans h4⟩
theorem vCk (l hs:List zH) i (hi:i<hs.length):oC l (hs.take (i+1))=eN (oC l (hs.take i)) (hs.getD i pd).1:=by
 unfold oC;rw[←jW hs i pd hi,List.foldl_append];rfl
def E7 (B:BT)(l hs:List zH)(r:List qY×EQ×AC×EQ×Int):(List (Int×Int×Int))×EQ×AC×EQ×(List zH)×(List zH):=
 bif !(decide (r.2.2.2.2=0)) then(B.1,B.2.1,B.2.2.1,B.2.2.2,l,[]) else(r.1,r.2.1,r.2.2.1,r.2.2.2.1,oC l hs,hs)
theorem Wa {k:Nat}{l:List zH}(hk:l.length<k)(hl:qT l){many:AC}(h0:oz many)(hm:∀i,many.getD i 0≤1000)(E0:many.length≤1000):E8 k l many=some (vJ l many):=by
 unfold qT at hl;unfold E8 Wb Wc;rw[qH (by omega) (by omega)];simp only[aj,ae];obtain ⟨s', h1, h2, h3, h4⟩ := yS (L := fun n i (s : AC × List zH) => E9 k n l l.length i s.1 s.2) (N := l.length) (fun s => s) (fun i s => s.1.length = many.length ∧ (∀ f : Nat, f < many.length → s.1.getD f 0 = if many.getD f 0 ≤ (jS (l.take i) f : Nat) then 0 else many.getD f 0 - (jS (l.take i) f : Nat)) ∧ s.2 = mw l many i) (fun n s _=>by
  show Fa k _ l l.length l.length s.1 s.2=_;unfold Fa;simp only [qU, ab (Nat.lt_irrefl _), an]) (fun n i s hi hs=>by
  obtain⟨s1,s2,s3⟩:=hs;have eG:s.2.length≤i:=by rw[s3];exact V7 l many i
  show∃s',Fa k _ l l.length i s.1 s.2=_∧_;unfold Fa Wd;simp only[qC,qE hi (show l.length<9223372036854775808 by omega),qU,aq,aa hi,aj,nk (show s.2.length≤1000 by omega)];have mY:=fun f=>vVo l i hi f
  have HX:∀f:Nat,f<many.length→(l.getD i pd).2.1≠(f:Int)→(if many.getD f 0≤(jS (l.take (i+1)) f:Nat) then(0:Int) else many.getD f 0-(jS (l.take (i+1)) f:Nat))=if many.getD f 0≤(jS (l.take i) f:Nat) then 0 else many.getD f 0-(jS (l.take i) f:Nat):=by
   intro f hf bp;rw[mY f,if_neg bp,Nat.add_zero]
  have skip:rO l many i=false→(∀f:Nat,f<many.length→(l.getD i pd).2.1=(f:Int)→many.getD f 0≤(jS (l.take i) f:Nat))→(s.1.length=many.length∧(∀f:Nat,f<many.length→s.1.getD f 0=if many.getD f 0≤(jS (l.take (i+1)) f:Nat) then 0 else many.getD f 0-(jS (l.take (i+1)) f:Nat))∧s.2=mw l many (i+1)):=by
   intro hh hz;refine⟨s1,fun f hf=>?_,?_⟩
   ·by_cases c:(l.getD i pd).2.1=(f:Int)
    ·have:=hz f hf c;rw[s2 f hf,if_pos this,mY f,if_pos c,if_pos (by omega)]
    ·rw[HX f hf c,s2 f hf]
   ·show _=mw l many i++_;rw[hh,s3];simp
  cases e1:decide ((l.getD i pd).2.1<0) with
  |true=>
   refine⟨s,rfl,skip ?_ ?_⟩
   ·unfold rO;rw[aY] at e1;rw[ab (show¬(l.getD i pd).2.1≥0 by omega)];rfl
   ·intro f hf c;rw[aY] at e1;omega
  |false=>
   cases e2:decide ((l.getD i pd).2.1≥((s.1.length:Nat):Int)) with
   |true=>
    refine⟨s,rfl,skip ?_ ?_⟩
    ·unfold rO;rw[aY] at e2;rw[ab (show¬(l.getD i pd).2.1<(many.length:Int) by omega),Bool.and_false];rfl
    ·intro f hf c;rw[aY] at e2;omega
   |false=>
    rw[decide_eq_false_iff_not] at e1 e2;obtain⟨f,hf⟩:∃f:Nat,(l.getD i pd).2.1=f:=⟨(l.getD i pd).2.1.toNat,by omega⟩;have Mj:f<many.length:=by omega
    have dY:(l.getD i (0,(0,(0,(0,(0,(0,0))))))).2.1=f:=hf;simp only[an,dY,qC,aq,s1,aa Mj,aj];have yv:rO l many i=decide (((jS (l.take i) f:Nat):Int)<many.getD f 0):=by
     unfold rO;rw[hf,aa (show(f:Int)≥0 by omega),aa (show(f:Int)<(many.length:Int) by omega),aq];rfl
    have lE:=s2 f Mj;cases e3:decide (s.1.getD f 0<1) with
    |true=>
     rw[aY,lE] at e3;have hle:many.getD f 0≤(jS (l.take i) f:Nat):=by
      by_cases c:many.getD f 0≤(jS (l.take i) f:Nat)
      ·exact c
      ·rw[if_neg c] at e3;omega
     refine⟨s,rfl,skip (by rw[yv];exact ab (by omega)) ?_⟩;intro g hg c;have:g=f:=by omega
     subst this;exact hle
    |false=>
     rw[decide_eq_false_iff_not] at e3;have hgt:¬many.getD f 0≤(jS (l.take i) f:Nat):=by
      intro c;rw[lE,if_pos c] at e3;omega
     rw[if_neg hgt] at lE;have vi:=hm f;have hw:zA (s.1.getD f 0-1)=s.1.getD f 0-1:=zO (by omega) (by omega);refine⟨(s.1.set f (s.1.getD f 0-1),s.2++[l.getD i pd]),?_,?_,?_,?_⟩
     ·simp only[an,ae,aj,hw]
     ·rw[List.length_set];exact s1
     ·intro g hg;rw[fj];by_cases c:f=g
      ·subst c;rw[if_pos ⟨rfl,by omega⟩,mY f,if_pos hf,lE];by_cases d:many.getD f 0≤((jS (l.take i) f+1:Nat):Int)
       ·rw[if_pos d];omega
       ·rw[if_neg d];omega
      ·rw[if_neg (fun e=>c e.1),HX g hg (by omega)];exact s2 g hg
     ·show s.2++[l.getD i pd]=mw l many i++_;rw[yv,aa (by omega),s3];rfl) (s:=(many,[])) hk ⟨rfl,fun f hf=>by
   have:(jS (l.take 0) f:Nat)=0:=rfl;have h0f:=h0 f;rw[this];by_cases c:many.getD f 0≤((0:Nat):Int)
   ·rw[if_pos c];show many.getD f 0=0;omega
   ·rw[if_neg c];show many.getD f 0=_;omega,rfl⟩
 have fW:E9 k k l l.length 0 many []=some s':=h1;rw[fW];simp only[ae,h4];rfl
theorem yOe {k l}(hk:l.length<k)(hl:qT l) f:JN k l f=some (l.filter (wV f)):=by
 unfold JN We;have := Jj pd (L := fun n i s => JO k n l l.length i f s) (wV f) id (fun n s=>by
  show Fc k _ l l.length l.length f s=_;unfold Fc;simp) (fun n i s hi hs=>by
  show Fc k _ l l.length i f s=_;unfold Fc Wg;unfold qT at hl;simp[qC,qE hi (by grind),nk (show s.length≤1000 by omega)];unfold wV;grind) hk
 simp_all
theorem Wh {k}{B:BT}{l}(hk:l.length<k)(hl:qT l)(hn:B.1.length<k)(hn':B.1.length≤1000) s7:
  AR k k s7 B.1.length 0 B.1 B.2.1 B.2.2.1 B.2.2.2 [] l=some (s7,B.1,B.2.1,B.2.2.1,B.2.2.2,gC l B.1.length,l):=by
 obtain ⟨s', h1, h2⟩ := yS (L := fun n i (s : AC) => AR k n s7 B.1.length i B.1 B.2.1 B.2.2.1 B.2.2.2 s l) (N := B.1.length) (fun s => (s7, B.1, B.2.1, B.2.2.1, B.2.2.2, s, l)) (fun i s => s = gC l i) (fun n s _=>by
  show Fe k _ s7 B.1.length B.1.length B.1 B.2.1 B.2.2.1 B.2.2.2 s l=_;unfold Fe;simp) (fun n i s hi hs=>by
  refine⟨_,?_,(yKa l i).symm⟩;show Fe k _ s7 B.1.length i B.1 B.2.1 B.2.2.1 B.2.2.2 s l=_;unfold Fe;have hr:zN (s.length+1) 8=true:=by rw[hs,wu];exact qH (by omega) (by omega)
  simp[aa hi,yOe hk hl,hr,qE hi (by grind)];rw[hs];rfl) (s:=[]) hn rfl
 simp_all
theorem vPl {k}{B:BT}{l:List zH}{s m}(hk:s.length<k)(hs:s.length≤1000)(eZ:∀x∈s,0≤x∧x<(m.length:Int))(h0:oz m)(hm:∀i,m.getD i 0≤1000) s7:
  Ff k k s7 s.length 0 B.1 B.2.1 B.2.2.1 B.2.2.2 m l s=some (s7,B.1,B.2.1,B.2.2.1,B.2.2.2,eO s m,l):=by
 obtain ⟨s', h1, h2⟩ := yS (L := fun n i (r : AC) => Ff k n s7 s.length i B.1 B.2.1 B.2.2.1 B.2.2.2 r l s) (N := s.length) (fun r => (s7, B.1, B.2.1, B.2.2.1, B.2.2.2, r, l)) (fun i r => r = eO (s.take i) m) (fun n r _=>by
  show Fg k _ s7 s.length s.length B.1 B.2.1 B.2.2.1 B.2.2.2 r l s=_;unfold Fg;simp) (fun n i r hi hr=>by
  refine⟨_,?_,(yH3 s m i hi).symm⟩;show Fg k _ s7 s.length i B.1 B.2.1 B.2.2.1 B.2.2.2 r l s=_;unfold Fg;obtain⟨b1,b2⟩:=eZ _ (jQ (d:=0) hi);have uI:r.length=m.length:=by rw[hr,tM]
  have hb:zB (s.getD i 0) r.length=true:=wT b1 (by omega);have Us:=JK (s.take i) m (s.getD i 0).toNat;have HQ:=h0 (s.getD i 0).toNat;have vi:=hm (s.getD i 0).toNat;have bj:(s.take i).length≤s.length:=by grind
  have hw:zA (r.getD (s.getD i 0).toNat 0-1)=r.getD (s.getD i 0).toNat 0-1:=by
   rw[hr];exact zO (by omega) (by omega)
  simp only[qU,qC,aq,aa hi,aj,hb,hw,qE hi (by grind)];rw[hr]) (s:=m) hk rfl
 simp_all
theorem vJc {k}(hk:100<k){B}(hb:qP B){l}(hl:∀q∈l,yH B.1.length q)(bU:l.length≤64){m f n}(h:ky B l m f n):
  ∀N (s7:Int),m.length=B.1.length→oz m→(∀i,m.getD i 0≤1000)→n<N→0≤s7→s7+n<1000000→
  JP k N s7 B.1 B.2.1 B.2.2.1 B.2.2.2 m l=some (s7+n+1,f):=by
 induction h with
 |@stop m h=>
  intro N s7 hm h0 h1 hn hs sV;obtain⟨N,rfl⟩:∃x,N=x+1:=⟨N-1,by omega⟩;have gD:=hb.n6;show Fh k _ s7 B.1 B.2.1 B.2.2.1 B.2.2.2 m l=_;unfold Fh;have hS:=Vs hk hb (JL hl bU m);have nP:AG k B.1 B.2.1 B.2.2.1 B.2.2.2 (vJ l m)=some (jV B (vJ l m)):=hS;rw[Wa (by omega) (show qT l by show l.length≤1000;omega) h0 h1 (by omega)];simp[ae];rw[nP,h];have w:zA (s7+1)=s7+1:=zO (by omega) (by omega);rw[w];simp
 |@step m f n h h' ih=>
  intro N s7 hm h0 h1 hn hs sV;obtain⟨N,rfl⟩:∃x,N=x+1:=⟨N-1,by omega⟩;have gD:=hb.n6;show Fh k _ s7 B.1 B.2.1 B.2.2.1 B.2.2.2 m l=_;unfold Fh;have hS:=Vs hk hb (JL hl bU m);have nP:AG k B.1 B.2.1 B.2.2.1 B.2.2.2 (vJ l m)=some (jV B (vJ l m)):=hS;rw[Wa (by omega) (show qT l by show l.length≤1000;omega) h0 h1 (by omega)];simp only[ae];rw[nP];simp only[ae];have w:zA (s7+1)=s7+1:=zO (by omega) (by omega);have bp : decide ((((jV B (vJ l m)).length : Nat) : Int) = 0) = false := ab (by
   simp_all)
  have eG:(jV B (vJ l m)).length≤B.1.length:=by
   unfold jV tE;grind
  rw[bp,w];rw[vPl (by omega) (by omega) (by rw[hm];exact V6) h0 h1];simp;have Wi:=Oo hl hm h0;have:=ih N (s7+1) ((tM _ _).trans hm) Wi (fun i=>by have:=(JK (jV B (vJ l m)) m i).2;have:=h1 i;omega) (by omega) (by omega) (by omega);rw[this]
  congr 2
  omega
theorem vK0 {k}(hk:100<k){B}(hb:qP B){l}(hl:∀q∈l,yH B.1.length q)(bU:l.length≤64) t {f n}(hn:n≤l.length)(h:ky B (yX l t) (gC (yX l t) B.1.length) f n):
  Ou k B.1 B.2.1 B.2.2.1 B.2.2.2 l t=some (f,((n+1:Nat):Int)):=by
 have gD:=hb.n6;have hr:=wv l t;have h1:=Oq (l:=yX l t) (by omega) B.1.length;unfold Ou;rw[Vv (by omega) (by show l.length≤1000;omega)];simp;have e:AR k k 0 B.1.length 0 B.1 B.2.1 B.2.2.1 B.2.2.2 [] (l.filter (jk t))=_:=Wh (k:=k) (B:=B) (l:=yX l t) (by omega) (by show(yX l t).length≤1000;omega) (by omega) (by omega) 0;rw[e];simp;rw[vJc hk hb (JM hl) (by omega) h k 0 (wu _ _) h1.1 h1.2 (by omega) (by omega) (by omega)];simp
theorem vGk {k}{C:BT}{l hs:List zH}(hl:l.length<k)(dK:l.length≤1000)(hk:hs.length<k)(hh:hs.length≤1000):
  AT k k l hs.length 0 C.1 C.2.1 C.2.2.1 C.2.2.2 hs=some (oC l hs,C.1,C.2.1,C.2.2.1,C.2.2.2,hs):=by
 obtain ⟨s', h1, h2⟩ := yS (L := fun n i (s : List zH) => AT k n s hs.length i C.1 C.2.1 C.2.2.1 C.2.2.2 hs) (N := hs.length) (fun s => (s, C.1, C.2.1, C.2.2.1, C.2.2.2, hs)) (fun i s => s = oC l (hs.take i)) (fun n s _=>by
  show Fi k _ s hs.length hs.length C.1 C.2.1 C.2.2.1 C.2.2.2 hs=_;unfold Fi;simp) (fun n i s hi hr=>by
  refine⟨_,?_,(vCk l hs i hi).symm⟩;show Fi k _ s hs.length i C.1 C.2.1 C.2.2.1 C.2.2.2 hs=_;unfold Fi;have eG:=(Ot (hs.take i) l).1;rw[←hr] at eG⊢;simp[qC,aa hi,AL (show s.length<k by omega) (show qT s by show s.length≤1000;omega),qE hi (by grind)];rfl) (s:=l) hk rfl
 simp_all
theorem Wj {k:Nat}(hk:100<k){B:BT}(hb:qP B){l:List zH}(hl:∀q∈l,yH B.1.length q)(bU:l.length≤64)(t:Int){f:AC}{n:Nat}(hn:n≤l.length)(h:ky B (yX l t) (gC (yX l t) B.1.length) f n)
  {r:List qY×EQ×AC×EQ×Int} (hr:pw k B.1 B.2.1 B.2.2.1 B.2.2.2 (vJ (yX l t) f)=some r):AU k B.1 B.2.1 B.2.2.1 B.2.2.2 l t=some (E7 B l (vJ (yX l t) f) r):=by
 have gD:=hb.n6;have uI:=wv l t;have h1:=Oq (l:=yX l t) (by omega) B.1.length;have hle:=h.le (wu _ _);have h0:=h.nonneg (JM hl) (wu _ _) h1.1;have Mj:f.length=B.1.length:=hle.1.trans (wu _ _);have hf:∀i,f.getD i 0≤1000:=fun i=>by
  by_cases c:i<(gC (yX l t) B.1.length).length
  ·have:=hle.2 i c;have:=h1.2 i;omega
  ·rw[List.getD_eq_getElem?_getD,List.getElem?_eq_none (by have:=hle.1;omega)];show(0:Int)≤1000;omega
 have Ov:=(wq (yX l t) f).length_le;unfold AU;rw[vK0 hk hb hl bU t hn h,Vv (by omega) (by show l.length≤1000;omega)];simp only[ae];have e:E8 k (l.filter (jk t)) f=_:=Wa (k:=k) (l:=yX l t) (by omega) (by show(yX l t).length≤1000;omega) h0 hf (by omega);rw[e];simp only[ae];rw[hr];simp only[ae];unfold E7;cases decide (r.2.2.2.2=0) with
 |false=>rfl
 |true=>
  simp only[aE,an];have e2:AT k k l ((List.length (vJ (yX l t) f):Nat):Int) 0 r.1 r.2.1 r.2.2.1 r.2.2.2.1 (vJ (yX l t) f)=_:=vGk (C:=(r.1,r.2.1,r.2.2.1,r.2.2.2.1)) (by omega) (by omega) (by omega) (by omega);rw[e2];rfl
theorem Wk {l x}(hx:x<l.length):List.Perm (l.getD x pd::yC l x) l:=by
 unfold yC;have h:List.Perm (l.getD x pd::(l.take x++l.drop (x+1))) (l.take x++l.getD x pd::l.drop (x+1)):=by grind
 simp_all
theorem Ow {l}(hd:qN l){p}(hp:p∈l):List.Perm (p::eN l p.1) l:=by
 obtain⟨x,hx⟩:=N0 hp;have h:=ku hx;have e:l.getD x pd=p:=hd.eq_of (by grind) hp h.2;unfold eN g9;have:=Wk h.1;simp_all
theorem gA.perm {k t B C l done m}(h:gA k t B l done C m)(hd:qN l):List.Perm (done++m) l:=by
 induction h with
 |stop _=>rfl
 |step h _ ih=>
  have hp:=EY (AP h).1;exact((ih (List.Pairwise.sublist (tK hp).2 hd)).cons _).trans (Ow hd hp)
theorem jT.perm {k t B C l done m}(h:jT k t B l done C m)(hd:qN l):List.Perm (done++m) l:=by
 induction h with
 |stop _=>rfl
 |step h _ ih=>
  obtain⟨hp,hq,ow,_⟩:=E2 h;obtain⟨h1,h2⟩:=E3 hd hp hq ow;have uN:qN (eN _ _):=List.Pairwise.sublist (tK hp).2 hd;have om:=V4 hp hq (yL7 hd hp hq ow);exact(((ih (List.Pairwise.sublist h2 hd)).cons _).cons _).trans (((Ow uN om).cons _).trans (Ow hd hp))
theorem gA.final {k t B C l done m}(h:gA k t B l done C m):fE k C (wA m t)=none:=by
 induction h with
 |stop h=>exact h
 |step _ _ ih=>exact ih
theorem jT.final {k t B C l done m}(h:jT k t B l done C m):fx k C m t=none:=by
 induction h with
 |stop h=>exact h
 |step _ _ ih=>exact ih
theorem qN.perm {l m}(h:qN l)(hp:List.Perm m l):qN m:=(List.Perm.pairwise_iff (R:=fun p q:zH=>p.1≠q.1) (by grind) hp.symm).1 h
inductive lF (k:Nat) (t:Int):BT→List zH→List zH→BT→List zH→Prop
 |stop {B C:BT} {l m d:List zH} (h1:gA k t B l d C m) (h2:fx k C m t=none):lF k t B l d C m
 |step {B C D E:BT} {l m n o d e f:List zH} (h1:gA k t B l d C m) (h2:jT k t C m e D n) (ne:e≠[]) (h':lF k t D n f E o):lF k t B l (d++e++f) E o
theorem lF.perm {k t B C l done m}(h:lF k t B l done C m)(hd:qN l):List.Perm (done++m) l:=by
 induction h with
 |stop h1 _=>exact h1.perm hd
 |@step B C D E l m n o d e f h1 h2 ne h' ih=>
  have p1:=h1.perm hd;have hd1:=hd.perm p1;have hm:qN m:=(List.pairwise_append.1 hd1).2.1;have p2:=h2.perm hm;have hn:qN n:=(List.pairwise_append.1 (hm.perm p2)).2.1;grind
theorem lF.final {k t B C l done m}(h:lF k t B l done C m):fE k C (wA m t)=none∧fx k C m t=none:=by
 induction h with
 |stop h1 h2=>exact⟨h1.final,h2⟩
 |step _ _ _ _ ih=>exact ih
theorem gA.none {k t B C l done m}(h:gA k t B l done C m)(hn:fE k B (wA l t)=none):done=[]∧C=B∧m=l:=by
 cases h with
 |stop _=>simp
 |step h _=>simp_all
theorem jT.none {k t B C l done m}(h:jT k t B l done C m)(hn:fx k B l t=none):done=[]∧C=B∧m=l:=by
 cases h with
 |stop _=>simp
 |step h _=>simp_all
theorem jT.nil {k t B C l m}(h:jT k t B l [] C m):fx k B l t=Option.none∧C=B∧m=l:=by
 cases h with
 |stop h=>simp_all
theorem lF.none {k t B C l done m}(h:lF k t B l done C m)(h1:fE k B (wA l t)=Option.none)(h2:fx k B l t=Option.none):done=[]∧C=B∧m=l:=by
 cases h with
 |stop g1 _=>exact g1.none h1
 |step g1 g2 ne _=>
  obtain⟨rfl,rfl,rfl⟩:=g1.none h1;obtain⟨rfl,_,_⟩:=g2.none h2;simp_all
theorem yLr {k:Nat}(hk:200≤k)(t:Int):∀(n:Nat) (B:BT) (l r:List zH),qP B→qN l→l.length≤100→l.length<n→r.length+l.length≤900→
  ∃(C:BT) (m done:List zH),JQ k n t l B.1 B.2.1 B.2.2.1 B.2.2.2 r=some (m,C.1,C.2.1,C.2.2.1,C.2.2.2,r++done)∧lF k t B l done C m∧qP C∧C.1.length=B.1.length∧List.Sublist m l
 |0,_,_,_,_,_,_,h,_=>absurd h (Nat.not_lt_zero _)
 |n+1,B,l,r,hb,hd,hl,hn,hr=>by
  obtain⟨C,m,d,f1,f2,f3,f4,f5⟩:=vVb hk hb hd hl t;have p1:=f2.perm hd;have l1:=p1.length_eq;rw[List.length_append] at l1;have hm:qN m:=List.Pairwise.sublist f5 hd;obtain⟨D,o,e,g1,g2,g3,g4,g5⟩:=vT3 hk f3 hm (by omega) t;have p2:=g2.perm hm;have l2:=p2.length_eq;rw[List.length_append] at l2;have r1:zN (r.length+d.length) 56=true:=qH (by omega) (by omega);have r2:zN ((r++d).length+e.length) 56=true:=qH (by rw[List.length_append];omega) (by grind);show∃C' m' abK,Ox k _ t l B.1 B.2.1 B.2.2.1 B.2.2.2 r=_∧_;unfold Ox;rw[f1];simp only[ae];rw[g1];simp only[ae,r1,r2,aj];cases e with
  |nil=>
   obtain⟨h1,h2,h3⟩:=g2.nil;subst h2;subst h3;refine⟨D,o,d,?_,.stop f2 h1,f3,f4,f5⟩;simp
  |cons p e=>
   have bj:o.length+(e.length+1)=m.length:=by simp at l2;omega
   obtain⟨E,q,f,k1,k2,k3,k4,k5⟩:=yLr hk t n D o (r++d++(p::e)) g3 (List.Pairwise.sublist g5 hm) (by omega) (by omega) (by simp;omega);refine⟨E,q,d++(p::e)++f,?_,.step f2 g2 (by simp) k2,k3,k4.trans (g4.trans f4),k5.trans (g5.trans f5)⟩;grind
theorem Fj {k}(hk:200≤k){B}(hb:qP B){l}(hd:qN l)(hl:l.length≤100) t:
  ∃(C:BT) (m done:List zH),JR k B.1 B.2.1 B.2.2.1 B.2.2.2 l t=some (C.1,C.2.1,C.2.2.1,C.2.2.2,m,done)∧lF k t B l done C m∧qP C∧C.1.length=B.1.length∧List.Sublist m l:=by
 obtain⟨C,m,done,h1,h3⟩:=yLr hk t k B l [] hb hd hl (by omega) (by grind);refine⟨C,m,done,?_,h3⟩;unfold JR;simp_all
theorem yGp:∀hs l,qN l→qN hs→(∀q∈hs,q∈l)→List.Perm (hs++oC l hs) l
 |[],l,_,_,_=>List.Perm.refl _
 |p::hs,l,hd,hh,eZ=>by
  have hp:=eZ p (by simp);obtain⟨h1,h2⟩:=tK hp;have hc:=List.pairwise_cons.1 hh;have:=yGp hs (eN l p.1) (List.Pairwise.sublist h2 hd) hc.2 (fun q hq=>V4 hp (by grind) (by grind));exact(this.cons p).trans (Ow hd hp)
theorem vS2 {k}(hk:100<k){B}(hb:qP B):pw k B.1 B.2.1 B.2.2.1 B.2.2.2 []=some (B.1,B.2.1,B.2.2.1,B.2.2.2,0):=by
  obtain⟨r,h1,h3⟩:=NG hk hb (l:=[]) (by simp);have aR:vY B.1.length []:=⟨by simp,by simp⟩;obtain⟨a',p',h4,h5⟩:=h3.1 aR;have ak:tA B.1.length B.1 B.2.2.2 [] B.1 B.2.2.2:={
    al:=rfl
    acct:=fun i hi=>by
      have hr:0≤(B.1.getD i ad).2.2:=by
        have:=hb.nums.res i hi;omega
      show B.1.getD i ad=((B.1.getD i ad).1+0,(B.1.getD i ad).2.1,wX (B.1.getD i ad).2.2 0);have e:wX (B.1.getD i ad).2.2 0=(B.1.getD i ad).2.2:=by
        unfold wX;omega
      simp_all
    pl:=hb.pl
    pr:=hb.pr
    cell:=fun i hi j hj=>by show _=_+0-0;omega}
  obtain⟨e1,e2⟩:=h4.same ak;subst e1;subst e2;rw[Ns.2 hb] at h5;simp_all
theorem Wl {k:Nat}(hk:200≤k){B:BT}(hb:qP B){l:List zH}(hd:qN l)(hl:∀q∈l,yH B.1.length q)(bU:l.length≤64)(t:Int):
  ∃(C:BT) (m done:List zH),AU k B.1 B.2.1 B.2.2.1 B.2.2.2 l t=some (C.1,C.2.1,C.2.2.1,C.2.2.2,m,done)∧qP C∧C.1.length=B.1.length∧List.Sublist m l∧List.Perm (done++m) l∧(done=[]→C=B∧m=l):=by
 obtain⟨f,n,h,hn⟩:=V8 hb hl bU t;have uI:=wv l t;have cM:=wq (yX l t) f;have Ov:=cM.length_le;obtain⟨r,h1,h2,h3⟩:=EX (k:=k) (by omega) hb (l:=vJ (yX l t) f) (by omega);have hs:=Og hb h3;have g1:=Wj (k:=k) (by omega) hb hl bU t (by omega) h h1;unfold E7 at g1;cases c:decide (r.2.2.2.2=0) with
 |false=>
  rw[c] at g1;exact⟨B,l,[],g1,hb,rfl,List.Sublist.refl _,List.Perm.refl _,fun _=>⟨rfl,rfl⟩⟩
 |true=>
  rw[c] at g1;have eG:List.Sublist (vJ (yX l t) f) l:=cM.trans List.filter_sublist;have hal:r.1.length=B.1.length:=by
   by_cases c':vY B.1.length (vJ (yX l t) f)
   ·obtain⟨a',p',x,e⟩:=h3.1 c';cases hi:mr a' B.2.1 B.2.2.1 p' with
    |false=>rw[hi] at e;subst e;rfl
    |true=>rw[hi] at e;subst e;exact x.al
   ·rw[h3.2 c']
  refine⟨(r.1,r.2.1,r.2.2.1,r.2.2.2.1),oC l (vJ (yX l t) f),vJ (yX l t) f,g1,hs.2.1,hal,(Ot _ _).2,yGp _ _ hd (List.Pairwise.sublist eG hd) (fun q hq=>eG.subset hq),fun e=>?_⟩;rw[e] at h1⊢;rw[vS2 (by omega) hb] at h1;cases h1;exact⟨rfl,rfl⟩
theorem vR7 {k}(hk:200≤k){B}(hb:qP B){l}(hd:qN l)(hl:∀q∈l,yH B.1.length q)(bU:l.length≤64) t all:
  ∃(C:BT) (m done:List zH),wx k B.1 B.2.1 B.2.2.1 B.2.2.2 l t all=some (C.1,C.2.1,C.2.2.1,C.2.2.2,m,done)∧qP C∧C.1.length=B.1.length∧List.Sublist m l∧List.Perm (done++m) l∧fE k C (wA m t)=none∧fx k C m t=none:=by
 obtain⟨C,m,d,f1,f2,f3,f4,f5⟩:=Fj hk hb hd (by omega) t;have p1:=f2.perm hd;have l1:=p1.length_eq;rw[List.length_append] at l1;unfold wx;rw[f1];simp only[ae];cases all with
 |false=>exact⟨C,m,d,rfl,f3,f4,f5,p1,f2.final⟩
 |true=>
  have hm:qN m:=List.Pairwise.sublist f5 hd;obtain⟨D,n,x,g1,g2,g3,g4,g5,g6⟩:=Wl hk f3 hm (by grind) (by omega) t;have l2:=g5.length_eq;rw[List.length_append] at l2;rw[g1];simp only[ae];cases x with
  |nil=>
   obtain⟨rfl,rfl⟩:=g6 rfl;exact⟨D,n,d,rfl,f3,f4,f5,p1,f2.final⟩
  |cons p x=>
   have e1:decide ((((p::x).length:Nat):Int)=0)=false:=by grind
   have hn:qN n:=List.Pairwise.sublist g4 hm;obtain⟨E,o,y,k1,k2,k3,k4,k5⟩:=Fj hk g2 hn (by omega) t;have p3:=k2.perm hn;have l3:=p3.length_eq;rw[List.length_append] at l3;have r1:zN (d.length+(p::x).length) 56=true:=qH (by omega) (by omega);have r2:zN ((d++(p::x)).length+y.length) 56=true:=qH (by simp at l2⊢;omega) (by simp at l2⊢;omega);rw[k1];simp only[ae,r1,r2];refine⟨E,o,d++(p::x)++y,rfl,k3,k4.trans (g3.trans f4),k5.trans (g4.trans f5),?_,k2.final⟩;have e2:d++(p::x)++y++o=d++((p::x)++(y++o)):=by simp
   rw[e2];exact((p3.append_left (p::x)).append_left d).trans ((g5.append_left d).trans p1)
abbrev yK:=Int×Int×Int×Int×Int×Int×Int×Int
instance AV:DecidableEq yK:=@instDecidableEqProd Int (Int×Int×Int×Int×Int×Int×Int) inferInstance (@instDecidableEqProd Int (Int×Int×Int×Int×Int×Int) inferInstance inferInstance)
def fl (to:Int)(p:zH):yK:=(to,18,p.1,p.2.1,p.2.2.1,p.2.2.2.1,0,0)
def rP (p:zH):List yK:=[fl p.2.1 p,fl p.2.2.1 p]
def vN:List zH→List yK
 |[]=>[]
 |p::l=>rP p++vN l
theorem yIf:∀l m,vN (l++m)=vN l++vN m
 |[],_=>rfl
 |p::l,m=>by
  show rP p++vN (l++m)=rP p++vN l++vN m;rw[yIf l m,List.append_assoc]
theorem Fk:∀l,(vN l).length=2*l.length
 |[]=>rfl
 |p::l=>by
  show(rP p++vN l).length=_;rw[List.length_append,Fk l];simp[rP];omega
theorem yY8 (l:List zH) i (hi:i<l.length):vN (l.take (i+1))=vN (l.take i)++rP (l.getD i pd):=by
 rw[←jW l i pd hi,yIf];rfl
theorem wy {n}(h:n≤1000):zN (n+1) 64=true:=qH (by omega) (by omega)
theorem vP7 {k}(hk:3≤k)(s8:List zH) s9 aw (r:List yK)(hr:r.length≤900) p:
  wz k k s8 s9 aw 2 0 r p.1 p.2.1 p.2.2.1 p.2.2.2.1 p.2.2.2.2.1 p.2.2.2.2.2.1 p.2.2.2.2.2.2 [p.2.1,p.2.2.1]=some (s8,s9,aw,r++rP p):=by
 obtain⟨n,rfl⟩:∃n,k=n+3:=⟨k-3,by omega⟩;have e1:zN (r.length+1) 64=true:=wy (by omega);have e2:zN ((r++[fl p.2.1 p]).length+1) 64=true:=wy (by grind);have h1:pC (n+3) p.2.1 18 [p.1,p.2.1,p.2.2.1,p.2.2.2.1]=some (fl p.2.1 p):=rfl;have h2:pC (n+3) p.2.2.1 18 [p.1,p.2.1,p.2.2.1,p.2.2.2.1]=some (fl p.2.2.1 p):=rfl;have w0:zA (0+1)=1:=by decide
 have w1:zA (1+1)=2:=by decide
 show w4 (n+3) (wz (n+3) (n+2)) s8 s9 aw 2 0 r p.1 p.2.1 p.2.2.1 p.2.2.2.1 p.2.2.2.2.1 p.2.2.2.2.2.1 p.2.2.2.2.2.2 [p.2.1,p.2.2.1]=_;unfold w4;have g0:[p.2.1,p.2.2.1].getD (Int.toNat 0) 0=p.2.1:=rfl;have b0:zB 0 [p.2.1,p.2.2.1].length=true:=rfl;have d0:decide ((0:Int)<2)=true:=rfl;simp[e1];show w4 (n+3) (wz (n+3) (n+1)) s8 s9 aw 2 1 (r++[fl p.2.1 p]) p.1 p.2.1 p.2.2.1 p.2.2.2.1 p.2.2.2.2.1 p.2.2.2.2.2.1 p.2.2.2.2.2.2 [p.2.1,p.2.2.1]=_;unfold w4;have g1:[p.2.1,p.2.2.1].getD (Int.toNat 1) 0=p.2.2.1:=rfl;have b1:zB 1 [p.2.1,p.2.2.1].length=true:=rfl;have d1:decide ((1:Int)<2)=true:=rfl;simp only[aj,ae,e2];show w4 (n+3) (wz (n+3) n) s8 s9 aw 2 2 (r++[fl p.2.1 p]++[fl p.2.2.1 p]) p.1 p.2.1 p.2.2.1 p.2.2.2.1 p.2.2.2.2.1 p.2.2.2.2.2.1 p.2.2.2.2.2.2 [p.2.1,p.2.2.1]=_;unfold w4;have d2:decide ((2:Int)<2)=false:=rfl;rw[d2,List.append_assoc];rfl
theorem vCz {k}{l:List zH}(hk:l.length+3≤k)(hl:l.length≤400):Oy k l=some (vN l):=by
 unfold Oy;obtain ⟨s', h1, h2⟩ := yS (L := fun n i (s : List yK) => JS k n l l.length i s) (N := l.length) (fun s => s) (fun i s => s = vN (l.take i)) (fun n s _=>by
  show Fl k _ l l.length l.length s=_;unfold Fl;simp) (fun n i s hi hs=>by
  refine⟨_,?_,(yY8 l i hi).symm⟩;show Fl k _ l l.length i s=_;unfold Fl;have eG:s.length≤900:=by
   rw[hs,Fk,List.length_take];omega
  have h2:=vP7 (k:=k) (by omega) l l.length i s eG (l.getD i pd);simp only[qC,qU,aq,aa hi,aj];rw[h2];simp[qE hi (by grind)];rw[hs]) (s:=[]) (show l.length<k by omega) rfl
 simp_all
theorem vTt {k}{l:List zH}(hk:l.length+5≤k)(hl:l.length≤400):Oz k l=some (vN l):=by
 unfold Oz;obtain ⟨s', h1, h2⟩ := yS (L := fun n i (s : List yK) => JT k n l i s) (N := l.length) (fun s => s) (fun i s => s = vN (l.take i)) (fun n s _=>by
  show Fm k _ l l.length s=_;unfold Fm;simp) (fun n i s hi hs=>by
  refine⟨_,?_,(yY8 l i hi).symm⟩;show Fm k _ l i s=_;unfold Fm;have eG:s.length≤900:=by
   rw[hs,Fk,List.length_take];omega
  obtain⟨j,rfl⟩:∃j,k=j+5:=⟨k-5,by omega⟩;have e2:zN (s.length+2) 64=true:=qH (by omega) (by omega);simp[qC,aa hi,e2,qE hi (by grind)];rw[hs];rfl) (s:=[]) (show l.length<k by omega) rfl
 simp_all
def fF (q:zH)(o:yK):Bool:=decide (o.2.2.1=q.1)&&(decide (o.1=q.2.1)&&(decide (o.2.1=21)||(decide (o.2.1=22)||decide (o.2.1=18))))
def kz (q:zH)(o:List yK):Nat:=o.countP (fF q)
theorem AW q a b:kz q (a++b)=kz q a+kz q b:=List.countP_append
theorem Wm {f:zH→Bool}{q:zH}:∀{ps:List zH},qN ps→q∈ps→f q=true→(∀p∈ps,f p=true→p.1=q.1)→ps.countP f=1
 |[],_,h,_,_=>by cases h
 |p::ps,hd,hq,hf,hu=>by
  have hc:=List.pairwise_cons.1 hd;rw[List.countP_cons];rcases List.mem_cons.1 hq with rfl|hq
  ·rw[hf,if_pos rfl];have:ps.countP f=0:=by
    rw[List.countP_eq_zero];intro r hr zj;exact hc.1 r hr (hu r (List.mem_cons_of_mem _ hr) zj).symm
   omega
  ·have:f p=false:=by
    cases h:f p with
    |false=>rfl
    |true=>exact absurd (hu p (List.mem_cons_self ..) h) (hc.1 q hq)
   rw[this,Wm hc.2 hq hf (fun r hr=>hu r (List.mem_cons_of_mem _ hr))];rfl
def wK (kd:Int)(p:zH):yK:=(p.2.1,kd,p.1,0,0,0,0,0)
theorem Fo {kd:Int}(hk:kd=21∨kd=22){q:zH}{ps:List zH}(hd:qN ps):(q∈ps→kz q (ps.map (wK kd))=1)∧((∀p∈ps,p.1≠q.1)→kz q (ps.map (wK kd))=0):=by
 unfold kz;rw[List.countP_map];constructor
 ·intro h;apply Wm hd h
  ·show fF q (wK kd q)=true;unfold fF wK;rcases hk with rfl|rfl<;>simp
  ·intro p hp hf;have dY:fF q (wK kd p)=true:=hf;unfold fF wK at dY;rw[bb,aY] at dY;exact dY.1
 ·intro h;rw[List.countP_eq_zero];intro p hp hf;have dY:fF q (wK kd p)=true:=hf;unfold fF wK at dY;rw[bb,aY] at dY;exact h p hp dY.1
theorem yL8 q:∀d,kz q (vN d)=d.countP (fun p=>fF q (fl p.2.1 p))+d.countP (fun p=>fF q (fl p.2.2.1 p))
 |[]=>rfl
 |p::d=>by
  show kz q (rP p++vN d)=_;rw[AW,yL8 q d,List.countP_cons,List.countP_cons];have e:kz q (rP p)=(if fF q (fl p.2.1 p)=true then 1 else 0)+(if fF q (fl p.2.2.1 p)=true then 1 else 0):=by
   unfold kz rP;grind
  omega
theorem OA {n:Nat}{q:zH}{d:List zH}(hd:qN d)(hm:∀p∈d,yH n p):(q∈d→kz q (vN d)=1)∧((∀p∈d,p.1≠q.1)→kz q (vN d)=0):=by
 have h2:∀(l:List zH),qN l→(∀p∈l,yH n p)→(q∈l∨∀p∈l,p.1≠q.1)→l.countP (fun p=>fF q (fl p.2.2.1 p))=0:=by
  intro l oc E0 hq;rw[List.countP_eq_zero];intro p hp hf;have dY:fF q (fl p.2.2.1 p)=true:=hf;unfold fF fl at dY;rw[bb,bb,aY,aY] at dY;rcases hq with hq|hq
  ·have:=oc.eq_of hp hq dY.1;subst this;exact(E0 p hp).ne dY.2.1.symm
  ·exact hq p hp dY.1
 rw[yL8];constructor
 ·intro h;rw[h2 d hd hm (.inl h),Wm hd h]
  ·show fF q (fl q.2.1 q)=true;unfold fF fl;simp
  ·intro p hp hf;have dY:fF q (fl p.2.1 p)=true:=hf;unfold fF fl at dY;rw[bb,aY] at dY;exact dY.1
 ·intro h;rw[h2 d hd hm (.inr h)];have:d.countP (fun p=>fF q (fl p.2.1 p))=0:=by
   rw[List.countP_eq_zero];intro p hp hf;have dY:fF q (fl p.2.1 p)=true:=hf;unfold fF fl at dY;rw[bb,aY] at dY;exact h p hp dY.1
  omega
def w5 (B:BT)(i:Nat):yK:=((i:Int),23,(B.1.getD i ad).1,0,0,0,0,0)
def iA (B:BT)(n:Nat):List yK:=(List.range n).map (w5 B)
theorem vBi q B n:kz q (iA B n)=0:=by
 unfold kz iA;rw[List.countP_map,List.countP_eq_zero];intro i _ hf;have dY:fF q (w5 B i)=true:=hf;unfold fF w5 at dY;simp at dY
theorem yW6 B i:iA B (i+1)=iA B i++[w5 B i]:=by
 unfold iA;rw[List.range_succ,List.map_append];rfl
theorem yIp {α β:Type}(f:α→β)(l:List α) i d (h:i<l.length):(l.take (i+1)).map f=(l.take i).map f++[f (l.getD i d)]:=by
 rw[←jW l i d h,List.map_append];rfl
theorem yKh {k B}(hB:B.1.length≤6)(hk:200≤k){m:List zH}(hm:m.length≤100) t pr ho ids to ov:
  OB k t B.1 B.2.1 B.2.2.1 B.2.2.2 pr ho m ids to ov=some (t,B.1,B.2.1,B.2.2.1,B.2.2.2,pr,ho,[],ids,to,true,m.map (wK 22)++iA B B.1.length):=by
 unfold OB;obtain ⟨s', h1, h2⟩ := yS (L := fun n i (s : List yK) => Fp k n m m.length i t B.1 B.2.1 B.2.2.1 B.2.2.2 pr ho m ids to ov 0 0 false s) (N := m.length) (fun s => (t, B.1, B.2.1, B.2.2.1, B.2.2.2, pr, ho, m, ids, to, ov, 0, 0, false, s)) (fun i s => s = (m.take i).map (wK 22)) (fun n s _=>by
  show Fq k _ m m.length m.length t B.1 B.2.1 B.2.2.1 B.2.2.2 pr ho m ids to ov 0 0 false s=_;unfold Fq;simp) (fun n i s hi hs=>by
  refine⟨_,?_,(yIp (wK 22) m i pd hi).symm⟩;show Fq k _ m m.length i t B.1 B.2.1 B.2.2.1 B.2.2.2 pr ho m ids to ov 0 0 false s=_;unfold Fq;have eG:s.length≤900:=by grind
  have Fs:pC k (m.getD i pd).2.1 22 [(m.getD i pd).1]=some (wK 22 (m.getD i pd)):=rfl;simp only[qC,qU,aq,aa hi,aj,Fs,ae,wy (show s.length≤1000 by omega),qE hi (by grind)];rw[hs]) (s:=[]) (show m.length<k by omega) rfl
 have fW:Fp k k m m.length 0 t B.1 B.2.1 B.2.2.1 B.2.2.2 pr ho m ids to ov 0 0 false []=_:=h1;rw[fW,h2,List.take_length];obtain ⟨s2, g1, g2⟩ := yS (L := fun n i (s : List yK) => JU k n B.1 B.1.length i t B.1 B.2.1 B.2.2.1 B.2.2.2 pr ho m ids to ov 0 0 false s) (N := B.1.length) (fun s => (t, B.1, B.2.1, B.2.2.1, B.2.2.2, pr, ho, m, ids, to, ov, 0, 0, false, s)) (fun i s => s = m.map (wK 22) ++ iA B i) (fun n s _=>by
  show Ft k _ B.1 B.1.length B.1.length t B.1 B.2.1 B.2.2.1 B.2.2.2 pr ho m ids to ov 0 0 false s=_;unfold Ft;simp) (fun n i s hi hs=>by
  refine⟨_,?_,(show m.map (wK 22)++iA B i++[w5 B i]=m.map (wK 22)++iA B (i+1) by rw[yW6,List.append_assoc])⟩;show Ft k _ B.1 B.1.length i t B.1 B.2.1 B.2.2.1 B.2.2.2 pr ho m ids to ov 0 0 false s=_;unfold Ft;have eG:s.length≤900:=by
   rw[hs,List.length_append,List.length_map];unfold iA;grind
  have Fs:pC k i 23 [(B.1.getD i ad).1]=some (w5 B i):=rfl;have ho3:pC k i 23 [(B.1.getD i (0,0,0)).1]=some (w5 B i):=Fs;simp only[qC,qU,aq,aa hi,aj,ho3,ae,wy (show s.length≤1000 by omega),qE hi (by grind)];rw[hs]) (s:=m.map (wK 22)) (show B.1.length<k by omega) (by show _=_++[];simp)
 simp_all
def vE (t:Int)(p:zH):Bool:=decide (t>p.2.2.2.2.2.2)
theorem yR4 {k:Nat}(hk:200≤k){m:List zH}(hm:m.length≤100)(pa:Int)(as:List (Int×Int))(cu cl pe t:Int)(B:BT)(pr:AC)(ho:EQ)(ids:AC)(to:Int)(ov:Bool):
  Fu k k m m.length 0 pa as cu cl pe t B.1 B.2.1 B.2.2.1 B.2.2.2 pr ho m ids to ov 0 0 false [] []=some (pa,as,cu,cl,pe,t,B.1,B.2.1,B.2.2.1,B.2.2.2,pr,ho,m,ids,to,ov,0,0,false,(m.filter (vE t)).map (wK 21),m.filter (fun p=> !vE t p)):=by
 obtain ⟨s', h1, h2, h3⟩ := yS (L := fun n i (s : List yK × List zH) => Fu k n m m.length i pa as cu cl pe t B.1 B.2.1 B.2.2.1 B.2.2.2 pr ho m ids to ov 0 0 false s.1 s.2) (N := m.length) (fun s => (pa, as, cu, cl, pe, t, B.1, B.2.1, B.2.2.1, B.2.2.2, pr, ho, m, ids, to, ov, 0, 0, false, s.1, s.2)) (fun i s => s.1 = ((m.take i).filter (vE t)).map (wK 21) ∧ s.2 = (m.take i).filter (fun p => !vE t p)) (fun n s _=>by
  show Fv k _ m m.length m.length pa as cu cl pe t B.1 B.2.1 B.2.2.1 B.2.2.2 pr ho m ids to ov 0 0 false s.1 s.2=_;unfold Fv;simp only [qU, ab (Nat.lt_irrefl _), an]) (fun n i s hi hs=>by
  have sG:s.1.length≤900:=by
   rw[hs.1,List.length_map];have:=List.length_filter_le (vE t) (m.take i);rw[List.length_take] at this;omega
  have mR:s.2.length≤900:=by
   rw[hs.2];have:=List.length_filter_le (fun p=> !vE t p) (m.take i);rw[List.length_take] at this;omega
  show∃s',Fv k _ m m.length i pa as cu cl pe t B.1 B.2.1 B.2.2.1 B.2.2.2 pr ho m ids to ov 0 0 false s.1 s.2=_∧_;unfold Fv Wn;have Fs:pC k (m.getD i pd).2.1 21 [(m.getD i pd).1]=some (wK 21 (m.getD i pd)):=rfl;simp only[pd] at Fs;simp only[qC,qU,aq,aa hi,aj,Fs,ae,wy (show s.1.length≤1000 by omega),nk (show s.2.length≤1000 by omega),qE hi (show m.length<9223372036854775808 by omega)];have f1:=AI (vE t) m i pd hi;have f2:=AI (fun p=> !vE t p) m i pd hi;cases hb:vE t (m.getD i pd) with
  |true=>
   have bF:decide (t>(m.getD i (0,0,0,0,0,0,0)).2.2.2.2.2.2)=true:=hb;rw[bF];refine⟨(s.1++[wK 21 (m.getD i pd)],s.2),rfl,?_,?_⟩
   ·show s.1++_=_;rw[f1,hb,hs.1];simp
   ·show s.2=_;rw[f2,hb,hs.2];simp
  |false=>
   have bF:decide (t>(m.getD i (0,0,0,0,0,0,0)).2.2.2.2.2.2)=false:=hb;rw[bF];refine⟨(s.1,s.2++[m.getD i pd]),rfl,?_,?_⟩
   ·show s.1=_;rw[f1,hb,hs.1];simp
   ·show s.2++_=_;rw[f2,hb,hs.2];simp) (s:=([],[])) (show m.length<k by omega) ⟨rfl,rfl⟩
 have:=h1.trans (by rw[h2,h3,List.take_length]);exact this
structure Wo (t cl:Int) (B C:BT) (m m':List zH) (ov:Bool) (o:List yK):Prop where
 bk:qP C
 bl:C.1.length=B.1.length
 sub:List.Sublist m' m
 over:ov=decide (t+1=cl)
 none:ov=true→m'=[]
 late:ov=false→∀p∈m',vE (t+1) p=false
 Og:∀p∈m',kz p o=0
 hZ:∀p∈m,p∉m'→kz p o=1
 quiet:∀q:zH,(∀p∈m,p.1≠q.1)→kz q o=0
 room:o.length+2*m'.length≤2*m.length+(if ov=true then 6 else 0)
theorem qN.not_in {l m d:List zH}(hd:qN (d++m)){p}(hp:p∈m):∀q∈d,q.1≠p.1:=fun q hq=>(List.pairwise_append.1 hd).2.2 q hq p hp
end Go.Ab.Gi
