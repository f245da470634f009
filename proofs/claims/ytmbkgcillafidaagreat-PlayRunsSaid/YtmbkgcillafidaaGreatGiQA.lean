/- Plain proofs, part 0. -/
import Derived.Test.YtmbkgcillafidaaGreatGiAbC
import Derived.Test.YtmbkgcillafidaaGreatGiXS
set_option linter.unusedVariables false
set_option linter.unusedSimpArgs false
set_option maxRecDepth 100000
set_option linter.unusedSectionVars false
namespace Go.Ab
theorem aoa n(h:n≠0:=by omega):∃m,n=m+1:=⟨n-1,by omega⟩
theorem aa {p:Prop}[Decidable p](h:p:=by omega):decide p=true:=decide_eq_true h
theorem ab {p:Prop}[Decidable p](h:¬p:=by omega):decide p=false:=decide_eq_false h
theorem uH {p:Prop}[Decidable p](h:decide p=true):p:=of_decide_eq_true h
theorem fW {p:Prop}[Decidable p](h:decide p=false):¬p:=of_decide_eq_false h
theorem ba {p:Prop}[Decidable p]:(decide p=true)=p:=decide_eq_true_eq
theorem ae {α β:Type}(a:α)(f:α→Option β):(some a).bind f=f a:=rfl
theorem ag {α:Type}(a b:α):cond true a b=a:=rfl
theorem ak {α:Type}(a b:α):cond false a b=b:=rfl
theorem ao (n:Nat):(n:Int).toNat=n:=rfl
theorem aR (a b:Bool):((a&&b)=true)=(a=true∧b=true):=Bool.and_eq_true a b
theorem aA:(!true)=false:=rfl
theorem bO:(!false)=true:=rfl
theorem ay {α:Type}{a b:List α}:(a++b).length=a.length+b.length:=List.length_append
theorem bT {α:Type}{l:List α}{i:Nat}{a:α}:l.getD i a=l[i]?.getD a:=List.getD_eq_getElem?_getD
theorem bZ {α:Type}{i:Nat}{l:List α}:(l.take i).length=min i l.length:=List.length_take
end Go.Ab
namespace Go.Ab
theorem zP {x:Int}(h1:-9223372036854775808≤x:=by omega)(h2:x<9223372036854775808:=by omega):zA x=x:=by
 unfold zA IntKind.wrap;simp only[IntKind.bits,IntKind.signed,Bool.true_and];by_cases h:x%2^64≥2^(64-1)
 ·rw[if_pos (by simpa using h)];omega
 ·rw[if_neg (by simpa using h)];omega
theorem YL (x:Int):-9223372036854775808≤zA x:=by
 unfold zA IntKind.wrap;simp only[IntKind.bits,IntKind.signed,Bool.true_and];by_cases h:x%2^64≥2^(64-1)
 ·rw[if_pos (by simpa using h)];omega
 ·rw[if_neg (by simpa using h)];omega
theorem YM (x:Int):zA x<9223372036854775808:=by
 unfold zA IntKind.wrap;simp only[IntKind.bits,IntKind.signed,Bool.true_and];by_cases h:x%2^64≥2^(64-1)
 ·rw[if_pos (by simpa using h)];omega
 ·rw[if_neg (by simpa using h)];omega
theorem qD {i N:Nat}(h:i<N)(hN:N<9223372036854775808):zA ((i:Int)+1)=((i+1:Nat):Int):=by
 rw[zP];rfl
theorem wfi {n}(h:(Lit.int .i64 n).wf=true):-9223372036854775808≤n∧n<9223372036854775808:=by
 simp[Lit.wf,IntKind.min,IntKind.bits] at h;grind
theorem qB (i n:Nat):zB (i:Int) n=decide (i<n):=by
 unfold zB;simp
theorem wT {i:Int}{n:Nat}(h0:0≤i:=by omega)(h1:i<n:=by omega):zB i n=true:=by
 unfold zB;simp;omega
theorem qF {n b}(h:n*b≤140737488355328:=by omega)(h':n≤140737488355328:=by omega):zL n b=true:=by
 simp_all
theorem qZ (i n:Nat):decide ((i:Int)<(n:Int))=decide (i<n):=by simp
theorem sV (i n:Nat):decide ((i:Int)=(n:Int))=decide (i=n):=by
 by_cases h:i=n
 ·subst h;simp
 ·rw[ab h,ab]
def zY (p:Nat→Bool):Nat→Nat→Bool
 |0,_=>true
 |c+1,i=>p i&&zY p c (i+1)
theorem vK0 {p:Nat→Bool}:∀{c i:Nat},zY p c i=true↔∀j,i≤j→j<i+c→p j=true
 |0,i=>by simp[zY];intro j h1 h2;omega
 |c+1,i=>by
  simp only[zY,aR,vK0 (c:=c)];constructor
  ·rintro⟨h1,h2⟩ j h3 h4
   by_cases e:j=i
   ·subst e;exact h1
   ·exact h2 j (by omega) (by omega)
  ·intro h;exact⟨h i (Nat.le_refl i) (by omega),fun j h1 h2=>h j (by omega) (by omega)⟩
theorem wJ {p c}:zY p c 0=true↔∀j,j<c→p j=true:=by
 rw[vK0];simp
theorem YN {X:Type}{L:Nat→Int→Option X}{N:Nat} ok a b (bL:∀n,L (n+1) (N:Int)=some a)
  (aI:∀n i,i<N→L (n+1) (i:Int)=bif ok i then L n ((i+1:Nat):Int) else some b):∀c i n,i+c=N→c<n→L n (i:Int)=some (bif zY ok c i then a else b)
 |0,i,n,h,hn=>by
  obtain⟨n,rfl⟩:=aoa n;have:i=N:=by omega
  subst this;exact bL n
 |c+1,i,n,h,hn=>by
  obtain⟨n,rfl⟩:=aoa n;rw[aI n i (by omega)];unfold zY;cases ok i with
  |false=>rfl
  |true=>
   exact YN ok a b bL aI c (i+1) n (by omega) (by omega)
theorem eQ {X:Type}{L:Nat→Int→Option X}{N:Nat} ok a b (bL:∀n,L (n+1) (N:Int)=some a)
  (aI:∀n i,i<N→L (n+1) (i:Int)=bif ok i then L n ((i+1:Nat):Int) else some b) {n} (hn:N<n):L n 0=some (bif zY ok N 0 then a else b):=
 YN ok a b bL aI N 0 n (by omega) hn
theorem yQp {L:Nat→Int→Option (Unit⊕Int)}{N:Nat}(bad:Nat→Bool)(bL:∀n,L (n+1) (N:Int)=some (.inl ()))
  (aI:∀n i,i<N→L (n+1) (i:Int)=bif bad i then some (.inr (i:Int)) else L n ((i+1:Nat):Int)):
  ∀c i n,i+c=N→c<n→(zY (fun j=> !bad j) c i=true∧L n (i:Int)=some (.inl ()))∨∃x:Nat,i≤x∧x<N∧bad x=true∧(∀j,i≤j→j<x→bad j=false)∧zY (fun j=> !bad j) c i=false∧L n (i:Int)=some (.inr (x:Int))
 |0,i,n,h,hn=>by
  obtain⟨n,rfl⟩:=aoa n;have:i=N:=by omega
  subst this;exact .inl ⟨rfl,bL n⟩
 |c+1,i,n,h,hn=>by
  obtain⟨n,rfl⟩:=aoa n;rw[aI n i (by omega)];unfold zY;cases hb:bad i with
  |true=>exact .inr ⟨i,Nat.le_refl i,by omega,hb,fun j h1 h2=>absurd h1 (by omega),rfl,rfl⟩
  |false=>
   simp only[ak,bO,Bool.true_and];rcases yQp bad bL aI c (i+1) n (by omega) (by omega) with h1|⟨x,x1,x2,x3,x4,x5,x6⟩
   ·exact .inl h1
   ·refine .inr ⟨x,by omega,x2,x3,fun j h1 h2=>?_,x5,x6⟩;by_cases e:j=i
    ·subst e;exact hb
    ·exact x4 j (by omega) h2
theorem pt {L:Nat→Int→Option (Unit⊕Int)}{N:Nat}(bad:Nat→Bool)(bL:∀n,L (n+1) (N:Int)=some (.inl ()))
  (aI:∀n i,i<N→L (n+1) (i:Int)=bif bad i then some (.inr (i:Int)) else L n ((i+1:Nat):Int)) {n:Nat} (hn:N<n):
  ∃x:Unit⊕Int,L n 0=some x∧decide ((match x with|.inl _=>(-1:Int)|.inr y=>y)≥0)= !zY (fun j=> !bad j) N 0:=by
 rcases yQp bad bL aI N 0 n (by omega) hn with⟨h1,h2⟩|⟨x,_,_,_,_,h5,h6⟩
 ·exact⟨_,h2,by rw[h1];rfl⟩
 ·exact⟨_,h6,by rw[h5];simp⟩
theorem yO5 {S X:Type}{L:Nat→Int→S→Option X}{N}(e:S→X)(inv:Nat→S→Prop)(bL:∀n s,inv N s→L (n+1) (N:Int) s=some (e s))
  (aI:∀n i s,i<N→inv i s→∃s',L (n+1) (i:Int) s=L n ((i+1:Nat):Int) s'∧inv (i+1) s'):
  ∀c i n s,i+c=N→c<n→inv i s→∃s',L n (i:Int) s=some (e s')∧inv N s'
 |0,i,n,s,h,hn,hs=>by
  obtain⟨n,rfl⟩:=aoa n;grind
 |c+1,i,n,s,h,hn,hs=>by
  obtain⟨n,rfl⟩:=aoa n;obtain⟨s',h1,h2⟩:=aI n i s (by omega) hs;rw[h1];exact yO5 e inv bL aI c (i+1) n s' (by omega) (by omega) h2
theorem vA {S X:Type}{L:Nat→Int→S→Option X}{N}(e:S→X)(inv:Nat→S→Prop)(bL:∀n s,inv N s→L (n+1) (N:Int) s=some (e s))
 (aI:∀n i s,i<N→inv i s→∃s',L (n+1) (i:Int) s=L n ((i+1:Nat):Int) s'∧inv (i+1) s') {n s} (hn:N<n) (hs:inv 0 s):
 ∃s',L n 0 s=some (e s')∧inv N s':=yO5 e inv bL aI N 0 n s (by omega) hn hs
def zQ {α:Type}(g:α→Int):List α→Int
 |[]=>0
 |p::l=>g p+zQ g l
theorem kU {α} g:∀(l m:List α),zQ g (l++m)=zQ g l+zQ g m
 |[],m=>by simp[zQ]
 |p::l,m=>by
  show g p+zQ g (l++m)=g p+zQ g l+zQ g m;rw[kU g l m];omega
theorem B1 {α g A}:∀{l:List α},(∀p∈l,-A≤g p∧g p≤A)→-(l.length*A)≤zQ g l∧zQ g l≤l.length*A
 |[],_=>by simp[zQ]
 |p::l,h=>by
  have h1:=h p (by simp);have h2:=B1 (l:=l) fun q hq=>h q (by grind)
  have e:((p::l).length:Int)*A=(l.length:Int)*A+A:=by
   rw[List.length_cons,Int.natCast_add,Int.add_mul];simp
  show-_≤g p+zQ g l∧g p+zQ g l≤_;omega
theorem xP {α g}:∀{l:List α},(∀p∈l,0≤g p)→0≤zQ g l
 |[],_=>by simp[zQ]
 |p::l,h=>by
  have h1:=h p (by simp);have h2:=xP (l:=l) fun q hq=>h q (by grind)
  show 0≤g p+zQ g l;omega
theorem yN3 {α} g h:∀(l:List α),zQ (fun p=>g p+h p) l=zQ g l+zQ h l
 |[]=>rfl
 |p::l=>by
  show g p+h p+zQ _ l=g p+zQ g l+(h p+zQ h l);rw[yN3 g h l];omega
theorem YO {α} g h:∀(l:List α),zQ (fun p=>g p-h p) l=zQ g l-zQ h l
 |[]=>rfl
 |p::l=>by
  show g p-h p+zQ _ l=g p+zQ g l-(h p+zQ h l);rw[YO g h l];omega
theorem P3 {α g h}:∀{l:List α},(∀p∈l,g p=h p)→zQ g l=zQ h l
 |[],_=>rfl
 |p::l,e=>by
  show g p+zQ g l=h p+zQ h l;rw[e p (by simp),P3 fun q hq=>e q (by grind)]
def qJ (g:Nat→Int):Nat→Int
 |0=>0
 |n+1=>qJ g n+g n
theorem EV g h:∀n,qJ (fun j=>g j+h j) n=qJ g n+qJ h n
 |0=>rfl
 |n+1=>by
  show qJ _ n+(g n+h n)=qJ g n+g n+(qJ h n+h n);rw[EV g h n];omega
theorem sW {g h}:∀{n},(∀j,j<n→g j=h j)→qJ g n=qJ h n
 |0,_=>rfl
 |n+1,e=>by
  show qJ g n+g n=qJ h n+h n;rw[sW fun j hj=>e j (by omega),e n (by simp)]
theorem B2 (c:Int)(t:Nat):∀n,qJ (fun j=>if j=t then c else 0) n=if t<n then c else 0
 |0=>rfl
 |n+1=>by
  show qJ _ n+(if n=t then c else 0)=_;rw[B2 c t n];by_cases h:t<n
  ·rw[if_pos h,if_neg (by omega),if_pos (by omega)];omega
  ·by_cases h':n=t
   ·rw[if_neg h,if_pos h',if_pos (by omega)];omega
   ·rw[if_neg h,if_neg h',if_neg (by omega)];omega
theorem YP:∀n,qJ (fun _=>0) n=0
 |0=>rfl
 |n+1=>by show qJ _ n+0=0;rw[YP n];rfl
theorem xQ {g A}(h:∀j,-A≤g j∧g j≤A):∀n:Nat,-(n*A)≤qJ g n∧qJ g n≤n*A
 |0=>by simp[qJ]
 |n+1=>by
  have h1:=h n;have h2:=xQ h n;have e:((n+1:Nat):Int)*A=(n:Int)*A+A:=by
   grind
  show-_≤qJ g n+g n∧qJ g n+g n≤_;omega
theorem P4 {α}(g:Nat→α→Int) n:∀l:List α,qJ (fun j=>zQ (g j) l) n=zQ (fun p=>qJ (fun j=>g j p) n) l
 |[]=>YP n
 |p::l=>by
  show qJ (fun j=>g j p+zQ (g j) l) n=qJ (fun j=>g j p) n+zQ _ l;rw[EV,P4 g n l]
theorem fD {α:Type}{l:List α}{i d}(h:i<l.length):l.getD i d∈l:=by
 simp_all
theorem fE {α:Type}(l:List α) i d (h:i<l.length):l.take i++[l.getD i d]=l.take (i+1):=by
 simp_all
theorem fF {α:Type}(l:List α)(i j:Nat)(a d:α):(l.set i a).getD j d=if i=j∧i<l.length then a else l.getD j d:=by
 rw[bT,bT,List.getElem?_set];by_cases h:i=j
 ·subst h;by_cases h':i<l.length<;>simp[h']
 ·simp[h]
theorem EW {α:Type}{l m:List α} d (hl:l.length=m.length)(h:∀i,i<l.length→l.getD i d=m.getD i d):l=m:=by
 apply List.ext_getElem hl;simp_all
theorem yVo m (hm:m≤62) x:yM .i64 x (2^m-1)=x%2^m:=by
 unfold yM tO;have hp:(2:Int)^m=((2^m:Nat):Int):=by rfl
 have hle:2^m≤2^62:=Nat.pow_le_pow_right (by omega) hm;have mg:0<2^m:=by grind
 have e1:(BitVec.ofInt IntKind.i64.bits x&&&BitVec.ofInt IntKind.i64.bits (2^m-1)).toNat=(x%2^m).toNat:=by
  rw[BitVec.toNat_and,BitVec.toNat_ofInt,BitVec.toNat_ofInt];have e2:((2:Int)^m-1)%((2^IntKind.i64.bits:Nat):Int)=((2^m-1:Nat):Int):=by
   rw[hp];have:((2^m:Nat):Int)-1=((2^m-1:Nat):Int):=by omega
   rw[this];apply Int.emod_eq_of_lt (by omega);show((2^m-1:Nat):Int)<((2^64:Nat):Int);omega
  rw[e2,ao,Nat.and_two_pow_sub_one_eq_mod];have hx:0≤x%((2^IntKind.i64.bits:Nat):Int):=by omega
  have e3:x%2^m=(x%((2^IntKind.i64.bits:Nat):Int))%((2^m:Nat):Int):=by
   rw[hp,Int.emod_emod_of_dvd];show((2^m:Nat):Int)∣((2^64:Nat):Int);exact Int.natCast_dvd_natCast.2 (Nat.pow_dvd_pow 2 (by omega))
  grind
 rw[e1];have h0:0≤x%2^m:=by omega
 rw[Int.toNat_of_nonneg h0];exact zP
end Go.Ab
namespace Go.Ab.Gi
open Go.Ab
def uI (s c:Int):Int:=wV .u64 (shl .u64 s 8) (IntKind.wrap .u64 c)
def iD (b:AC):Int:=zA (b.foldl uI 0)
def fe:Nat→AC→AC
 |0,_=>[]
 |m+1,b=>iD (b.take 8)::fe m (b.drop 8)
theorem P5:∀m b,(fe m b).length=m
 |0,_=>rfl
 |m+1,b=>by simp[fe,P5 m]
theorem yR4:∀m b,fe (m+1) b=fe m b++[iD ((b.drop (8*m)).take 8)]
 |0,b=>by rfl
 |m+1,b=>by
  have h:=yR4 m (b.drop 8);rw[show fe (m+1+1) b=iD (b.take 8)::fe (m+1) (b.drop 8) from rfl,h];rw[List.drop_drop,show 8+8*m=8*(m+1) by omega];rfl
theorem yVt {x:AC}{i}(h:i<x.length) s:(x.take (i+1)).foldl uI s=uI ((x.take i).foldl uI s) (x.getD i 0):=by
 rw[←fE x i 0 h,List.foldl_append];rfl
theorem vV2 {k}(hk:9≤k) s0 x r0 (hx:x.length=8):EX k k s0 0 x 8 0 r0=some (s0,x.foldl uI 0,r0):=by
 obtain ⟨s, h1, h2⟩ := vA (L := fun n i (s : Int) => EX k n s0 s x 8 i r0) (N := 8) (fun s => (s0, s, r0)) (fun i s => s = (x.take i).foldl uI 0) (fun n s _ => rfl) (fun n i s hi hs=>by
  refine⟨uI s (x.getD i 0),?_,by rw[yVt (by omega),hs]⟩;show P6 k (EX k n) s0 s x 8 (i:Int) r0=_;unfold P6;rw[aa (by grind),ag,wT,ag,qD (N:=8) hi (by omega),ao];rfl) (n:=k) (s:=0) (by omega) rfl
 grind
theorem vJb {k}(hk:9≤k):∀m n b r,b.length=8*m→m<n→r.length+m≤17592186044416→EY k n b r=some (r++fe m b)
 |0,n,b,r,hb,hn,_=>by
  obtain⟨n,rfl⟩:∃x,n=x+1:=⟨n-1,by omega⟩;show EZ k (EY k n) b r=_;unfold EZ;rw[ab,ak];simp[fe]
 |m+1,n,b,r,hb,hn,hr=>by
  obtain⟨n,rfl⟩:∃x,n=x+1:=⟨n-1,by omega⟩;show EZ k (EY k n) b r=_;unfold EZ;have ht:(b.take 8).length=8:=by grind
  have e8:((b.take 8).length:Int)=8:=by omega
  rw[aa (by grind),ag,aa (by grind),ag,e8,vV2 hk _ _ _ ht,ae];dsimp only;rw[qF,ag,aa (by grind),ag];rw[vJb hk m n _ _ (by grind) (by omega) (by grind)];rw[List.append_assoc];rfl
theorem yZd (n:Nat):Int.tmod (n:Int) 8=((n%8:Nat):Int):=rfl
def fG (b:AC):AC×Int:=if b.length%8=0 then(fe (b.length/8) b,0) else([],2)
theorem YQ {k:Nat}{b:AC}(hk:9≤k)(hb:b.length<8*k)(bg:b.length≤140737488355328):qn k b=some (fG b):=by
 unfold qn fG;rw[yZd];by_cases h:b.length%8=0
 ·rw[if_pos h,aa,vJb hk (b.length/8) k b [] (by omega) (by omega) (by simp;omega)];rfl
 ·rw[if_neg h,ab];rfl
theorem vLq {k}(hk:9≤k) x (hx:x.length=8):KP k x=some (iD x):=by
 unfold KP;obtain ⟨s, h1, h2⟩ := vA (L := fun n i (s : Int) => KQ k n x s i) (N := 8) (fun s => s) (fun i s => s = (x.take i).foldl uI 0) (fun n s _ => rfl) (fun n i s hi hs=>by
  refine⟨uI s (x.getD i 0),?_,by rw[yVt (by omega),hs]⟩;show P7 k (KQ k n) x s (i:Int)=_;unfold P7;rw[aa (by grind),ag,wT,ag,qD (N:=8) hi (by omega),ao];rfl) (n:=k) (s:=0) (by omega) rfl
 rw[List.take_of_length_le (by omega)] at h2;subst h2;rw[h1];rfl
theorem vBy {k}(hk:9≤k) b M (hM:b.length=8*M)(hb:M≤17592186044416):∀m n j,j+m=M→m<n→B3 k n b ((8*j:Nat):Int) (fe j b)=some (fe M b)
 |0,n,j,hj,hn=>by
  obtain⟨n,rfl⟩:∃x,n=x+1:=⟨n-1,by omega⟩;show E0 k (B3 k n) b _ _=_;unfold E0;simp_all
 |m+1,n,j,hj,hn=>by
  obtain⟨n,rfl⟩:∃x,n=x+1:=⟨n-1,by omega⟩;show E0 k (B3 k n) b _ _=_;unfold E0;have ew:zA (((8*j:Nat):Int)+8)=((8*(j+1):Nat):Int):=by rw[zP];omega
  rw[ew,aa (by grind),ag,aa (by grind),aa (by grind),
   aa (by grind),ao,ao,show 8*(j+1)-8*j=8 by omega]
  have hl:(qS b (8*j) 8).length=8:=by simp[qS];omega
  rw[show(true&&true&&true)=true from rfl,ag,vLq hk _ hl,ae];rw[qF (by rw[P5];omega) (by rw[P5];omega),ag];rw[show fe j b++[iD (qS b (8*j) 8)]=fe (j+1) b from(yR4 j b).symm];exact vBy hk b M hM hb m n (j+1) (by omega) (by omega)
theorem yJ1 {k:Nat}{b:AC}(hk:9≤k)(hb:b.length<8*k)(bg:b.length≤140737488355328):xR k b=some (fG b):=by
 unfold xR fG;rw[yZd];by_cases h:b.length%8=0
 ·rw[if_pos h,aa];have:=vBy hk b (b.length/8) (by omega) (by omega) (b.length/8) k 0 (by omega) (by omega);show(B3 k k b ((8*0:Nat):Int) (fe 0 b)).bind _=_;rw[this];rfl
 ·rw[if_neg h,ab];rfl
def vHj:AC:=[(-1),6,1,2,2,2,1,1,2,0,2,2,2,0,0,0,1,5,4,1,1,1,1,1]
def yO (x:Int):Int:=if 0≤x∧x<24 then vHj.getD x.toNat 0 else-1
theorem P8 (k:Nat)(x:Int):B4 k x=some (yO x):=by
 unfold B4 yO;by_cases h:x<0
 ·rw[aa h,if_neg (by omega)];rfl
 ·rw[ab h,ak];by_cases h2:x≥24
  ·rw[aa h2,if_neg (by omega)];rfl
  ·rw[ab h2,ak,wT,ag,if_pos (by omega)];rfl
theorem KR (k:Nat)(x:Int):uJ k x=some (yO x):=by
 by_cases h:0≤x∧x<24
 ·obtain⟨n,rfl⟩:∃n:Nat,x=n:=⟨x.toNat,by omega⟩;have hn:n<24:=by omega
  have:∀n:Nat,n<24→uJ 0 (n:Int)=some (yO (n:Int)):=by decide
  exact this n hn
 ·have e:yO x= -1:=by unfold yO;rw[if_neg h]
  rw[e];unfold uJ;have ne:∀c:Int,0≤c→c<24→decide (x=c)=false:=fun c h1 h2=>ab
  rw[ne 9 (by omega) (by omega),ne 13 (by omega) (by omega),ne 14 (by omega) (by omega),ne 15 (by omega) (by omega),ne 2 (by omega) (by omega),ne 6 (by omega) (by omega),ne 7 (by omega) (by omega),ne 16 (by omega) (by omega),
   ne 19 (by omega) (by omega),ne 20 (by omega) (by omega),ne 21 (by omega) (by omega),ne 22 (by omega) (by omega),ne 23 (by omega) (by omega),ne 3 (by omega) (by omega),ne 4 (by omega) (by omega),ne 5 (by omega) (by omega),ne 8 (by omega) (by omega),
   ne 10 (by omega) (by omega),ne 11 (by omega) (by omega),ne 12 (by omega) (by omega),ne 18 (by omega) (by omega),ne 17 (by omega) (by omega),ne 1 (by omega) (by omega)]
  rfl
def kV (b:AC):zD×Int:=
 if b=[] then((0,0,0,0,0,0,0),2)
 else if(fG (b.drop 1)).2≠0∨((fG (b.drop 1)).1.length:Int)≠yO (zA (b.getD 0 0)) then((0,0,0,0,0,0,0),2)
 else((zA (b.getD 0 0),(fG (b.drop 1)).1.getD 0 0,(fG (b.drop 1)).1.getD 1 0,(fG (b.drop 1)).1.getD 2 0,(fG (b.drop 1)).1.getD 3 0,(fG (b.drop 1)).1.getD 4 0,(fG (b.drop 1)).1.getD 5 0),0)
theorem vUp (l:AC)(i:Nat):(bif Nat.blt i l.length then l.getD i 0 else 0)=l.getD i 0:=by
 by_cases h:i<l.length
 ·rw[show Nat.blt i l.length=true by simp[Nat.blt_eq,h]];rfl
 ·rw[show Nat.blt i l.length=false by
   cases e:Nat.blt i l.length with
   |false=>rfl
   |true=>rw[Nat.blt_eq] at e;omega]
  rw[bT,List.getElem?_eq_none (by omega)];rfl
theorem Qa {k:Nat}{b:AC}(hk:9≤k)(hb:b.length≤8*k)(bg:b.length≤140737488355328):qo k b=some (kV b):=by
 unfold qo kV;cases b with
 |nil=>rfl
 |cons c l=>
  rw[if_neg (by simp)];have e0:((c::l).length:Int)=(l.length:Int)+1:=by simp
  rw[ab,ak,aa (show(1:Int)≤((c::l).length:Int) by omega),ag,YQ hk (by simp at hb⊢;omega) (by simp at bg⊢;omega),ae];by_cases h:(fG (List.drop 1 (c::l))).2=0
  ·rw[aa h,wT (by omega) (by simp),KR];simp only[aA,ak,ag,ae];by_cases h2:((fG (List.drop 1 (c::l))).1.length:Int)=yO (zA ((c::l).getD 0 0))
   ·rw[aa h2,if_neg (fun hh=>hh.elim (fun e=>e h) fun e=>e h2)];simp only[aA,ak,vUp]
   ·rw[ab h2,if_pos (.inr h2)];rfl
  ·rw[ab h,if_pos (.inl h)];rfl
theorem E1 (x:Int):yO x≤6:=by
 unfold yO;split
 ·rename_i h;obtain⟨n,rfl⟩:∃n:Nat,x=n:=⟨x.toNat,by omega⟩;have:∀n:Nat,n<24→vHj.getD n 0≤6:=by decide
  exact this n (by omega)
 ·omega
theorem vRj k m (b0:zD) x l (hl:l.length≤6):
  Qb k (m+7) 0 b0 (x,0,0,0,0,0,0) l=some (b0,(x,l.getD 0 0,l.getD 1 0,l.getD 2 0,l.getD 3 0,l.getD 4 0,l.getD 5 0)):=by
 match l,hl with
 |[],_
  |[_],_
  |[_,_],_
  |[_,_,_],_
  |[_,_,_,_],_
  |[_,_,_,_,_],_
  |[_,_,_,_,_,_],_=>rfl
theorem YR {k:Nat}{b:AC}(hk:9≤k)(hb:b.length≤8*k)(bg:b.length≤140737488355328):uK k b=some (kV b):=by
 unfold uK kV;cases b with
 |nil=>rfl
 |cons c l=>
  rw[if_neg (by simp)];have e0:((c::l).length:Int)=(l.length:Int)+1:=by simp
  rw[ab,ak,wT (by omega) (by simp),ag,aa (show(1:Int)≤((c::l).length:Int) by omega),ag,yJ1 hk (by simp at hb⊢;omega) (by simp at bg⊢;omega),ae];by_cases h:(fG (List.drop 1 (c::l))).2=0
  ·rw[aa h,P8];simp only[aA,ak,ae];by_cases h2:((fG (List.drop 1 (c::l))).1.length:Int)=yO (zA ((c::l).getD 0 0))
   ·rw[aa h2,if_neg (fun hh=>hh.elim (fun e=>e h) fun e=>e h2)];have hm:=E1 (zA ((c::l).getD 0 0));obtain⟨m,rfl⟩:∃m,k=m+7:=⟨k-7,by omega⟩;simp only[aA,ak];rw[vRj _ _ _ _ _ (by omega)];rfl
   ·rw[ab h2,if_pos (.inr h2)];rfl
  ·rw[ab h,if_pos (.inl h)];rfl
abbrev KS:Type:=Int×List (Int×Int)×Int×Int×Int
abbrev xS:Type:=Int×List (Int×Int×Int)×EQ×AC×EQ×AC×EQ×List (Int×Int×Int×Int×Int×Int×Int)×AC×Int×Bool
abbrev kk:Type:=Int×List (Int×Int)×Int×Int×Int×Int×List (Int×Int×Int)×EQ×AC×EQ×AC×EQ×List (Int×Int×Int×Int×Int×Int×Int)×AC×Int×Bool×Int×Bool
def d0:mQ:=(0,0,[],0,0)
def zI (ev:Int)(YS:List mQ)(n i:Int)(R:KS)(c:fO)(D:vS)(G:kk)(L:wA)(c2:fO)(outs:List (List zW))(asked:List zW):=
 (ev,YS,n,i,R,c,((D.1,D.2.2.1,D.2.2.2.2):Int×Int×Int×Int×Int×Bool×Bool×Int),D.2.1,D.2.2.2.1,G,L,c2,outs,asked)
theorem YT {k}{G:kk}{L:wA}{D:vS}{a b}{m:zD×Int}(hd:G.2.2.2.2.2.2.2.2.2.2.2.2.2.2.2.2.2=false)(hm:qo k b=some m)(he:m.2≠0):
  xT k G L D a b=some ([(a,16,m.2,0,0,0,0,0)],G,L,D):=by
 unfold xT;rw[show xU k G L D=some (G.2.2.2.2.2.2.2.2.2.2.2.2.2.2.2.2.2,G,L,D) from rfl,ae,hd];rw[ak,hm,ae,ab he];rfl
abbrev dkW (ro:Int)(x:AC)(sx:Int)(y:AC)(sy cA cK op:Int):vS:=(ro,x,sx,y,sy,cA,cK,false,false,op)
def vP (n:Int)(i:Nat):Int:=IntKind.wrap .u8 (shr .i64 n (8*(i:Int)))
def fg (n:Int):AC:=[vP n 7,vP n 6,vP n 5,vP n 4,vP n 3,vP n 2,vP n 1,vP n 0]
def jQ (l:AC):AC:=l.flatMap fg
theorem qp:∀l,(jQ l).length=8*l.length
 |[]=>rfl
 |n::l=>by
  have:=qp l;simp[jQ] at this⊢;rw[this];simp[fg];omega
theorem vQu {k n} v (i:Nat)(hi:i≤7) aP bM bm r (hr:r.length≤1000000000):
  xV k (n+1) v (i:Int) aP bM bm r=xV k n v ((i:Int)-1) aP bM bm (r++[vP v i]):=by
 show Qc k (xV k n) v (i:Int) aP bM bm r=_;unfold Qc;have e8:zA (8*(i:Int))=8*(i:Int):=zP;rw[aa (by simp),ag,e8,ab,bO,ag,qF,ag,zP];rfl
theorem YU {k}(hk:9≤k) v aP bM bm r (hr:r.length≤100000000):
  xV k k v 7 aP bM bm r=some (aP,bM,bm,r++fg v):=by
 have gen:∀m,xV k (m+9) v 7 aP bM bm r=some (aP,bM,bm,r++fg v):=fun m=>by
  have h:=fun n i hi r' so=>vQu (k:=k) (n:=n) v i hi aP bM bm r' so
  have h7:=h (m+8) 7 (by omega) r (by omega);have h6:=h (m+7) 6 (by omega) (r++[vP v 7]) (by grind);have h5:=h (m+6) 5 (by omega) ((r++[vP v 7])++[vP v 6]) (by grind);have h4:=h (m+5) 4 (by omega) (((r++[vP v 7])++[vP v 6])++[vP v 5]) (by grind);have h3:=h (m+4) 3 (by omega) ((((r++[vP v 7])++[vP v 6])++[vP v 5])++[vP v 4]) (by grind);have h2:=h (m+3) 2 (by omega) (((((r++[vP v 7])++[vP v 6])++[vP v 5])++[vP v 4])++[vP v 3]) (by grind);have h1:=h (m+2) 1 (by omega) ((((((r++[vP v 7])++[vP v 6])++[vP v 5])++[vP v 4])++[vP v 3])++[vP v 2]) (by simp;omega);have h0:=h (m+1) 0 (by omega) (((((((r++[vP v 7])++[vP v 6])++[vP v 5])++[vP v 4])++[vP v 3])++[vP v 2])++[vP v 1]) (by simp;omega);refine(h7.trans (h6.trans (h5.trans (h4.trans (h3.trans (h2.trans (h1.trans (h0.trans ?_))))))));show some (aP,bM,bm,_)=_;simp only[List.append_assoc,List.cons_append,List.nil_append];rfl
 obtain⟨m,rfl⟩:∃m,k=m+9:=⟨k-9,by omega⟩;exact gen m
theorem vE3 {k}(hk:9≤k) l (hl:l.length≤1000000):∀(m n i:Nat),i+m=l.length→m<n→B5 k n l (l.length:Int) (i:Int) (jQ (l.take i))=some (jQ l)
 |0,n,i,hi,hn=>by
  obtain⟨n,rfl⟩:∃x,n=x+1:=⟨n-1,by omega⟩;show E2 k (B5 k n) l _ _ _=_;unfold E2;simp_all
 |m+1,n,i,hi,hn=>by
  obtain⟨n,rfl⟩:∃x,n=x+1:=⟨n-1,by omega⟩;show E2 k (B5 k n) l _ _ _=_;unfold E2;have aS:i<l.length:=by omega
  rw[aa (by grind),ag,wT,ag,ao,
   YU hk _ _ _ _ _ (by rw[qp,bZ];omega),ae,qD (N:=l.length) aS (by omega)]
  rw[show jQ (l.take i)++fg (l.getD i 0)=jQ (l.take (i+1)) by
   rw[←fE l i 0 aS];simp[jQ]]
  exact vE3 hk l hl m n (i+1) (by omega) (by omega)
theorem E3 {k}(hk:9≤k) l (hl:l.length≤1000000)(pT:l.length<k):xW k l=some (jQ l):=by
 unfold xW;have h8:zA (8*(l.length:Int))=((8*l.length:Nat):Int):=by rw[zP];omega
 rw[h8];have hm:pg 0 ((8*l.length:Nat):Int) 1=true:=by
  grind
 rw[hm,ag];have:=vE3 hk l hl l.length k 0 (by omega) pT;show(B5 k k l (l.length:Int) ((0:Nat):Int) (jQ (l.take 0))).bind _=_;simp_all
def fY (l:AC):AC:=fg (l.length:Int)++jQ l
theorem YV {k}(hk:9≤k) l (hl:l.length≤1000000)(pT:l.length<k):Qd k l=some (fY l):=by
 unfold Qd;rw[E3 hk [(l.length:Int)] (by simp) (by grind),ae,E3 hk l hl pT,ae];rw[qF (by rw[qp,qp];grind) (by rw[qp,qp];grind)];rfl
def kW (b:AC):AC:=[IntKind.wrap .u8 (shr .i64 (b.length:Int) 8),IntKind.wrap .u8 (b.length:Int)]++b
theorem Qe k b:KT k b=some (if b.length≤60000 then(kW b,true) else([],false)):=by
 unfold KT;by_cases h:b.length≤60000
 ·rw[ab,ak,qF,if_pos h];rfl
 grind
theorem KU (x:Int):IntKind.wrap .u8 x=x%256:=by
 unfold IntKind.wrap;simp[IntKind.bits,IntKind.signed]
theorem YW (x:Int):IntKind.wrap .u64 x=x%18446744073709551616:=by
 unfold IntKind.wrap;simp[IntKind.bits,IntKind.signed]
theorem vSn (n:Int)(i:Nat)(hi:i≤7):vP n i=(n/2^(8*i))%256:=by
 unfold vP;rw[KU]
 congr 1
 show n.fdiv (2^(min (8*(i:Int)).toNat 64))=_;rw[show min (8*(i:Int)).toNat 64=8*i by omega];exact Int.fdiv_eq_ediv_of_nonneg _ (Int.le_of_lt (Int.pow_pos (by decide)))
def yK (l:EQ):AC:=l.flatMap fY
theorem sX l:(fY l).length=8*(l.length+1):=by
 simp[fY,qp];show 8+_=_;omega
theorem yLs {l:EQ}{i}(h:i<l.length):yK (l.take i)++fY (l.getD i [])=yK (l.take (i+1)):=by
 rw[←fE l i [] h];simp[yK]
structure jG (l:EQ):Prop where
 n:l.length≤2400
 r:∀x∈l,x.length≤2400
theorem KV {l}(h:∀x∈l,x.length≤2400):(yK l).length≤20000*l.length:=by
 induction l with
 |nil=>simp[yK]
 |cons x l ih=>
  have h1:=ih (by grind);have h2:=h x (by simp);simp[yK,sX] at h1⊢;omega
theorem YX {k}(hk:9999≤k){l}(h:jG l):KW k l=some (yK l):=by
 have hn:=h.n;unfold KW;obtain ⟨s, h1, h2⟩ := vA (L := fun n i (s : AC) => E4 k n l (l.length : Int) i s) (N := l.length) (fun s => s) (fun i s => s = yK (l.take i)) (fun n s _=>by
  show E5 k (E4 k n) l _ _ s=_;unfold E5;simp) (fun n i s hi hs=>by
  refine⟨s++fY (l.getD i []),?_,by rw[hs,yLs hi]⟩;show E5 k (E4 k n) l _ (i:Int) s=_;unfold E5;have hr:=h.r _ (fD (d:=[]) hi);have pZ:s.length≤20000*9999:=by
   have:=KV (l:=l.take i) fun x hx=>h.r x (by grind)
   grind
  rw[aa (by grind),ag,wT,ag,ao,YV (by omega) _ (by omega) (by omega),ae,
   qF (by rw[sX];omega) (by rw[sX];omega),ag,qD (N:=l.length) hi (by omega)]) (n:=k) (s:=[]) (by omega) rfl
 simp_all
def lK (a:Int×Int×Int):AC:=[a.1,a.2.1,a.2.2]
def lL (p:Int×Int×Int×Int×Int×Int×Int):AC:=[p.1,p.2.1,p.2.2.1,p.2.2.2.1,p.2.2.2.2.1,p.2.2.2.2.2.1,p.2.2.2.2.2.2]
def jb (s:xS):EQ:=
 (((((([[s.1,s.2.2.2.2.2.2.2.2.2.1,bif s.2.2.2.2.2.2.2.2.2.2 then 1 else 0,(s.2.1.length:Int),(s.2.2.1.length:Int),(s.2.2.2.1.length:Int),(s.2.2.2.2.1.length:Int),(s.2.2.2.2.2.2.1.length:Int),(s.2.2.2.2.2.2.2.1.length:Int)]]++
  s.2.1.map lK)++s.2.2.1)++[s.2.2.2.1])++s.2.2.2.2.1)++[s.2.2.2.2.2.1])++s.2.2.2.2.2.2.1)++s.2.2.2.2.2.2.2.1.map lL++[s.2.2.2.2.2.2.2.2.1]
theorem Qf {α β:Type}(f:α→β) d {l:List α}{i}(h:i<l.length):(l.take i).map f++[f (l.getD i d)]=(l.take (i+1)).map f:=by
 rw[←fE l i d h];simp
theorem vYk {k}{l:List (Int×Int×Int)}(hl:l.length≤2400)(hk:9999≤k)(s:xS)(b) r (hr:r.length≤1000000):B6 k k l (l.length:Int) 0 s b r=some (s,b,r++l.map lK):=by
 obtain ⟨t, h1, h2⟩ := vA (L := fun n i (t : EQ) => B6 k n l (l.length : Int) i s b t) (N := l.length) (fun t => (s, b, t)) (fun i t => t = r ++ (l.take i).map lK) (fun n t _=>by
  show E6 k (B6 k n) l _ _ s b t=_;unfold E6;simp) (fun n i t hi ht=>by
  refine⟨t++[lK (l.getD i (0,0,0))],?_,by rw[ht,List.append_assoc,Qf lK (0,0,0) hi]⟩;show E6 k (B6 k n) l _ (i:Int) s b t=_;unfold E6;have:t.length≤1010000:=by grind
  rw[aa (by grind),ag,wT,ag,qF,ag,qD (N:=l.length) hi (by omega)];rfl) (n:=k) (s:=r) (by omega) (by simp)
 simp_all
theorem YY {k}{l:List (Int×Int×Int×Int×Int×Int×Int)}(hl:l.length≤2400)(hk:9999≤k)(s:xS) r (hr:r.length≤1000000):B7 k k l (l.length:Int) 0 s r=some (s,r++l.map lL):=by
 obtain ⟨t, h1, h2⟩ := vA (L := fun n i (t : EQ) => B7 k n l (l.length : Int) i s t) (N := l.length) (fun t => (s, t)) (fun i t => t = r ++ (l.take i).map lL) (fun n t _=>by
  show E7 k (B7 k n) l _ _ s t=_;unfold E7;simp) (fun n i t hi ht=>by
  refine⟨t++[lL (l.getD i (0,0,0,0,0,0,0))],?_,by rw[ht,List.append_assoc,Qf lL (0,0,0,0,0,0,0) hi]⟩;show E7 k (B7 k n) l _ (i:Int) s t=_;unfold E7;have:t.length≤1010000:=by grind
  rw[aa (by grind),ag,wT,ag,qF,ag,qD (N:=l.length) hi (by omega)];rfl) (n:=k) (s:=r) (by omega) (by simp)
 simp_all
theorem yLv {k}(hk:9999≤k){s}(h:jG (jb s)):kl k s=some (yK (jb s)):=by
 have hn:=h.n;simp only[jb,ay,List.length_map] at hn;unfold kl;rw[show Qg k s.2.2.2.2.2.2.2.2.2.2=some (bif s.2.2.2.2.2.2.2.2.2.2 then 1 else 0) by unfold Qg;grind,ae];rw[vYk (by omega) hk _ _ _ (by simp),ae];dsimp only;rw[qF (by grind) (by grind),ag,qF (by grind) (by grind),ag,qF (by simp;omega) (by grind),ag,qF (by simp;omega) (by simp;omega),ag,
  qF (by simp;omega) (by simp;omega),ag,YY (by omega) hk _ _ (by simp;omega),ae]
 dsimp only;rw[qF (by simp;omega) (by simp;omega),ag];show(KW k (jb s)).bind (fun x1=>some x1)=_;rw[YX hk h];rfl
structure YZ (D:vS):Prop where
 ajA:D.2.2.2.2.2.2.2.1=false
 down:D.2.2.2.2.2.2.2.2.1=false
 room:0≤D.1∧D.1≤200000
 x:(D.2.1.length:Int)≤D.1
 y:(D.2.2.2.1.length:Int)≤D.1
def kX (D:vS)(i:Int):AC:=if i=0 then D.2.1 else D.2.2.2.1
theorem YZ.as {D}(h:YZ D):∃ro x sx y sy cA cK op,D=dkW ro x sx y sy cA cK op∧0≤ro∧ro≤200000∧(x.length:Int)≤ro∧(y.length:Int)≤ro:=by
 obtain⟨ro,x,sx,y,sy,cA,cK,ar,dn,op⟩:=D;obtain⟨h1,h2,h3,h4,h5⟩:=h;subst h1;subst h2;grind
structure ajM (L:wA):Prop where
 side:L.1=0∨L.1=1
 gen:1≤L.2.1∧L.2.1≤4611686018427387904
 rows:0≤L.2.2.1∧L.2.2.1≤1000000
 stale:L.2.2.2=false
theorem Qh b:(kW b).length=b.length+2:=by rfl
def Qi (l:AC):Prop:=∀x∈l,-9223372036854775808≤x∧x<9223372036854775808
abbrev yG:=Int×Int×Int
abbrev zJ:=Int×Int×Int×Int×Int×Int×Int
def fH (a:yG):Bool:=decide (a.1>-4611686018427387904)&&(decide (a.1<4611686018427387904)&&(decide (a.2.1≥0)&&(decide (a.2.1≤2305843009213693952)&&(decide (a.2.2≥0)&&decide (a.2.2≤2305843009213693952)))))
def jD (n:Int):Bool:=decide (n≥-1)&&decide (n≤2305843009213693952)
def iE (n:Int):Bool:=decide (n>-72057594037927936)&&decide (n<72057594037927936)
def cell (m:EQ)(i j:Nat):Int:=(m.getD i []).getD j 0
def nu (n:Nat)(m:EQ):Bool:=decide (m.length=n)&&zY (fun i=>decide ((m.getD i []).length=n)) n 0
def qq (p:Int→Bool)(n:Nat)(m:EQ):Bool:=zY (fun i=>zY (fun j=>p (cell m i j)) n 0) n 0
def xX (n:Nat)(m:EQ):Bool:=zY (fun i=>zY (fun j=>decide (cell m i j=zA (0-cell m j i))) n 0) n 0
def kY (xY:List yG)(bil:EQ)(mul:AC)(pos:EQ):Bool:=
 let n:=xY.length
 decide (1≤n)&&(decide (n≤6)&&(nu n bil&&(nu n pos&&(decide (mul.length=n)&&(zY (fun i=>fH (xY.getD i (0,0,0))) n 0&&(zY (fun i=>jD (mul.getD i 0)) n 0&&(qq jD n bil&&(qq iE n pos&&xX n pos))))))))
theorem Y0 k b c r:KX k b c r=some (fH (b,c,r)):=by
 unfold KX fH;grind
theorem yO9 k b c r:Qj k b c r=some (fH (b,c,r)):=Y0 k b c r
theorem Y1 k n:KY k n=some (jD n):=by
 unfold KY jD;grind
theorem vR2 k n:Y2 k n=some (jD n):=Y1 k n
theorem Y3 k n:Qk k n=some (iE n):=by
 unfold Qk iE;grind
theorem yI3 {k:Nat}{n:Nat}(hk:n<k)(hn:n≤9999)(m:EQ):KZ k m n=some (nu n m):=by
 unfold KZ nu;simp only[sV];by_cases h:m.length=n
 ·have := eQ (L := fun c i => K0 k c m n i) (N := n) (fun i => decide ((m.getD i []).length = n)) (.inl ()) (.inr false) (fun c=>by
    show E8 k _ m n n=_;unfold E8;simp only [qZ, ab (Nat.lt_irrefl n), ak]) (fun c i hi=>by
    show E8 k _ m n i=_;unfold E8;simp only[qB,qD hi (by omega),qZ,sV,ao,h,aa hi,ag];cases decide ((m.getD i []).length=n)<;>rfl) hk
  simp only[h,decide_true,aA,ak,Bool.true_and];rw[this];generalize zY _ _ _=r;cases r<;>rfl
 ·simp only[ab h,bO,ag,Bool.false_and]
theorem Y4 {k:Nat}{N i:Nat}(hk:N<k)(hN:N≤9999)(hi:i<N){a:List yG}{b p:EQ}{m:AC}(hb:b.length=N)(hp:p.length=N)(Y5:∀j,j<N→(b.getD j []).length=N)(pv:∀j,j<N→(p.getD j []).length=N):
  E9 k k N i 0 a b m p=some (bif zY (fun j=>jD (cell b i j)&&(iE (cell p i j)&&decide (cell p i j=zA (0-cell p j i)))) N 0 then .inl ((N:Int),(i:Int),a,b,m,p) else .inr false):=by
 refine eQ (L:=fun c j=>E9 k c N i j a b m p) (N:=N) _ (.inl ((N:Int),(i:Int),a,b,m,p)) (.inr false) (fun c=>?_) (fun c j hj=>?_) hk
 ·show Fa k _ N i N a b m p=_;unfold Fa;simp only[qZ,ab (Nat.lt_irrefl N),ak]
 ·show Fa k _ N i j a b m p=_;unfold Fa;simp only[qB,qD hj (by omega),qZ,ao,hb,hp,Y5 i hi,pv i hi,pv j hj,aa hj,aa hi,ag,Y1,ae,iE];show(bif !jD (cell b i j) then _ else bif decide (cell p i j≤_) then _ else bif decide (cell p i j≥_) then _ else bif !decide (cell p i j=_) then _ else _)=_;have e1:decide (cell p i j≤-72057594037927936)= !decide (cell p i j>-72057594037927936):=by
   by_cases h:cell p i j≤-72057594037927936
   ·rw[aa h,ab];rfl
   ·rw[ab h,aa];rfl
  have e2:decide (cell p i j≥72057594037927936)= !decide (cell p i j<72057594037927936):=by
   by_cases h:cell p i j≥72057594037927936
   ·rw[aa h,ab];rfl
   ·rw[ab h,aa];rfl
  rw[e1,e2];show(bif !jD (cell b i j) then _ else bif _ then _ else bif _ then _ else bif !decide (cell p i j=zA (0-cell p j i)) then _ else _)=_;cases jD (cell b i j)<;>cases decide (cell p i j>-72057594037927936)<;>cases decide (cell p i j<72057594037927936)<;>cases decide (cell p i j=zA (0-cell p j i))<;>rfl
theorem vOd {k:Nat}{N:Nat}(hk:N<k)(hN:N≤9999){a:List yG}{b p:EQ}{m:AC}(ha:a.length=N)(hm:m.length=N)(hb:b.length=N)(hp:p.length=N)(Y5:∀j,j<N→(b.getD j []).length=N)(pv:∀j,j<N→(p.getD j []).length=N):
  Fc k k N 0 a b m p=some (bif zY (fun i=>fH (a.getD i (0,0,0))&&(jD (m.getD i 0)&&zY (fun j=>jD (cell b i j)&&(iE (cell p i j)&&decide (cell p i j=zA (0-cell p j i)))) N 0)) N 0 then .inl () else .inr false):=by
 refine eQ (L:=fun c j=>Fc k c N j a b m p) (N:=N) _ (.inl ()) (.inr false) (fun c=>?_) (fun c i hi=>?_) hk
 ·show Fe k _ N N a b m p=_;unfold Fe;simp only[qZ,ab (Nat.lt_irrefl N),ak]
 ·show Fe k _ N i a b m p=_;unfold Fe;simp only[qB,qZ,ao,ha,hm,aa hi,ag,Y1,Y0,ae,Y4 hk hN hi hb hp Y5 pv];generalize zY _ N 0=r;show(bif !fH (a.getD i (0,0,0)) then _ else _)=_;cases fH (a.getD i (0,0,0))<;>cases jD (m.getD i 0)<;>cases r<;>simp only[aA,bO,ag,ak,Bool.and_true,Bool.and_false,Bool.true_and,Bool.false_and,qD hi (show N<9223372036854775808 by omega)]
theorem yS8 {k:Nat}(hk:10<k)(a:List yG)(b:EQ)(m:AC)(p:EQ):Ff k a b m p=some (kY a b m p):=by
 unfold Ff;have l1:decide ((a.length:Int)<1)= !decide (1≤a.length):=by
  by_cases h:1≤a.length
  ·rw[aa h,ab];rfl
  ·rw[ab h,aa];rfl
 have l2:decide ((a.length:Int)>6)= !decide (a.length≤6):=by
  by_cases h:a.length≤6
  ·rw[aa h,ab];rfl
  ·rw[ab h,aa];rfl
 rw[l1,l2];unfold kY;dsimp only;by_cases h1:1≤a.length
 case neg=>rw[ab h1];rfl
 by_cases h2:a.length≤6
 case neg=>rw[aa h1,ab h2];rfl
 rw[aa h1,aa h2];simp only[aA,ak,Bool.true_and];rw[yI3 (by omega) (by omega),yI3 (by omega) (by omega)];simp only[ae,sV];cases hb:nu a.length b with
 |false=>rfl
 |true=>
  cases hp:nu a.length p with
  |false=>rfl
  |true=>
   by_cases hm:m.length=a.length
   case neg=>simp only[ab hm];rfl
   simp only[nu,aR,ba,wJ] at hb hp;simp only[hm,decide_true,aA,ak,Bool.true_and];rw[vOd (by omega) (by omega) rfl hm hb.1 hp.1 hb.2 hp.2];have e:(zY (fun i=>fH (a.getD i (0,0,0))) a.length 0&&(zY (fun i=>jD (m.getD i 0)) a.length 0&&(qq jD a.length b&&(qq iE a.length p&&xX a.length p))))=
     zY (fun i=>fH (a.getD i (0,0,0))&&(jD (m.getD i 0)&&zY (fun j=>jD (cell b i j)&&(iE (cell p i j)&&decide (cell p i j=zA (0-cell p j i)))) a.length 0)) a.length 0:=by
    rw[Bool.eq_iff_iff];simp only[qq,xX,aR,wJ];constructor
    ·rintro⟨h1,h2,h3,h4,h5⟩ i hi
     exact⟨h1 i hi,h2 i hi,fun j hj=>⟨h3 i hi j hj,h4 i hi j hj,h5 i hi j hj⟩⟩
    ·intro h;exact⟨fun i hi=>(h i hi).1,fun i hi=>(h i hi).2.1,fun i hi j hj=>((h i hi).2.2 j hj).1,fun i hi j hj=>((h i hi).2.2 j hj).2.1,fun i hi j hj=>((h i hi).2.2 j hj).2.2⟩
   rw[e];generalize zY _ _ _=r;cases r<;>rfl
theorem Y6 {k}{a:List yG}(hk:a.length<k)(hl:a.length<9223372036854775808):Ql k a=some (!zY (fun i=>fH (a.getD i (0,0,0))) a.length 0):=by
 obtain ⟨x, h1, h2⟩ := pt (L := fun c i => K1 k c a a.length i) (N := a.length) (fun i => !fH (a.getD i (0, 0, 0))) (fun c=>by
  show Fg k _ a a.length a.length=_;unfold Fg;simp) (fun c i hi=>by
  show Fg k _ a a.length i=_;unfold Fg Y7;simp[qB,qD hi hl,aa hi,yO9]) hk
 unfold Ql Y8;grind
theorem vUl {k a}(hk:a.length<k)(hl:a.length<9223372036854775808):Qm k a=some (!zY (fun i=>jD (a.getD i 0)) a.length 0):=by
 obtain ⟨x, h1, h2⟩ := pt (L := fun c i => K2 k c a a.length i) (N := a.length) (fun i => !jD (a.getD i 0)) (fun c=>by
  show Fh k _ a a.length a.length=_;unfold Fh;simp) (fun c i hi=>by
  show Fh k _ a a.length i=_;unfold Fh Y9;simp[qB,qD hi hl,aa hi,vR2]) hk
 unfold Qm Za;grind
theorem vSy {k a}(hk:a.length<k)(hl:a.length<9223372036854775808):Qn k a=some (!zY (fun i=>iE (a.getD i 0)) a.length 0):=by
 obtain ⟨x, h1, h2⟩ := pt (L := fun c i => K3 k c a a.length i) (N := a.length) (fun i => !iE (a.getD i 0)) (fun c=>by
  show Fi k _ a a.length a.length=_;unfold Fi;simp) (fun c i hi=>by
  show Fi k _ a a.length i=_;unfold Fi Zb;simp[qB,qD hi hl,aa hi,Y3]) hk
 unfold Qn Zc;grind
theorem yZu {k n:Nat}(hk:n<k)(hn:n≤9999)(a:AC):K4 k a n=some (decide (a.length=n)&&zY (fun i=>jD (a.getD i 0)) n 0):=by
 unfold K4;simp only[sV];by_cases h:a.length=n
 ·rw[vUl (by omega) (by omega)];simp only[h,decide_true,ag,ae,Bool.not_not,Bool.true_and]
 ·simp only[ab h,ak,Bool.false_and]
theorem vSm {k n:Nat}(hk:n<k)(hn:n≤9999)(a:AC):Qo k a n=some (decide (a.length=n)&&zY (fun i=>iE (a.getD i 0)) n 0):=by
 unfold Qo;simp only[sV];by_cases h:a.length=n
 ·rw[vSy (by omega) (by omega)];simp only[h,decide_true,ag,ae,Bool.not_not,Bool.true_and]
 ·simp only[ab h,ak,Bool.false_and]
theorem Zd {k n:Nat}(hk:n<k)(hn:n≤9999)(m:EQ):Qp k m n=some (decide (m.length=n)&&zY (fun i=>decide ((m.getD i []).length=n)&&zY (fun j=>jD (cell m i j)) n 0) n 0):=by
 unfold Qp;simp only[sV];by_cases h:m.length=n
 ·have := eQ (L := fun c i => K5 k c n m n i) (N := n) (fun i => decide ((m.getD i []).length = n) && zY (fun j => jD (cell m i j)) n 0) (.inl ()) (.inr false) (fun c=>by
    show Fj k _ n m n n=_;unfold Fj;simp only [qZ, ab (Nat.lt_irrefl n), ak]) (fun c i hi=>by
    show Fj k _ n m n i=_;unfold Fj;simp only[qB,qD hi (by omega),qZ,ao,h,aa hi,ag,yZu hk hn,ae];show(bif !(decide ((m.getD i []).length=n)&&zY (fun j=>jD (cell m i j)) n 0) then _ else _)=_;generalize (decide ((m.getD i []).length=n)&&zY (fun j=>jD (cell m i j)) n 0)=r;cases r<;>rfl) hk
  simp only[h,decide_true,aA,ak,Bool.true_and];rw[this];generalize zY _ _ _=r;cases r<;>rfl
 ·simp only[ab h,bO,ag,Bool.false_and]
theorem Ze {k n:Nat}(hk:n<k)(hn:n≤9999)(m:EQ):Qq k m n=some (decide (m.length=n)&&zY (fun i=>decide ((m.getD i []).length=n)&&zY (fun j=>iE (cell m i j)) n 0) n 0):=by
 unfold Qq;simp only[sV];by_cases h:m.length=n
 ·have := eQ (L := fun c i => K6 k c n m n i) (N := n) (fun i => decide ((m.getD i []).length = n) && zY (fun j => iE (cell m i j)) n 0) (.inl ()) (.inr false) (fun c=>by
    show Fk k _ n m n n=_;unfold Fk;simp only [qZ, ab (Nat.lt_irrefl n), ak]) (fun c i hi=>by
    show Fk k _ n m n i=_;unfold Fk;simp only[qB,qD hi (by omega),qZ,ao,h,aa hi,ag,vSm hk hn,ae];show(bif !(decide ((m.getD i []).length=n)&&zY (fun j=>iE (cell m i j)) n 0) then _ else _)=_;generalize (decide ((m.getD i []).length=n)&&zY (fun j=>iE (cell m i j)) n 0)=r;cases r<;>rfl) hk
  simp only[h,decide_true,aA,ak,Bool.true_and];rw[this];generalize zY _ _ _=r;cases r<;>rfl
 ·simp only[ab h,bO,ag,Bool.false_and]
theorem vPe {k N i:Nat}(hk:N<k)(hN:N≤9999)(hi:i<N){p q:EQ}{u:Int}(hp:p.length=N)(pv:∀j,j<N→(p.getD j []).length=N):
  Fl k k p i q u i (p.getD i []) N 0=some (bif zY (fun j=>decide (cell p j i=zA (0-cell p i j))) N 0 then .inl (p,q,u,(i:Int)) else .inr false):=by
 refine eQ (L:=fun c j=>Fl k c p i q u i (p.getD i []) N j) (N:=N) _ (.inl (p,q,u,(i:Int))) (.inr false) (fun c=>?_) (fun c j hj=>?_) hk
 ·show Fm k _ p i q u i (p.getD i []) N N=_;unfold Fm;simp only[qZ,ab (Nat.lt_irrefl N),ak]
 ·show Fm k _ p i q u i (p.getD i []) N j=_;unfold Fm;simp only[qB,qD hj (show N<9223372036854775808 by omega),qZ,ao,hp,pv i hi,pv j hj,aa hj,aa hi,ag];show(bif !decide (cell p j i=zA (0-cell p i j)) then _ else _)=_;generalize decide (cell p j i=zA (0-cell p i j))=r;cases r<;>rfl
theorem Zf {k N}(hk:N<k)(hN:N≤9999){p}(hp:p.length=N)(pv:∀j,j<N→(p.getD j []).length=N):
  Qr k p=some (xX N p):=by
 have := eQ (L := fun c i => K7 k c p p N i) (N := N) (fun i => zY (fun j => decide (cell p j i = zA (0 - cell p i j))) N 0) (.inl ()) (.inr false) (fun c=>by
   show Fo k _ p p N N=_;unfold Fo;simp) (fun c i hi=>by
   show Fo k _ p p N i=_;unfold Fo;simp only[qB,qZ,ao,hp,pv i hi,aa hi,vPe hk hN hi hp pv,ae];generalize zY _ N 0=r;cases r<;>simp[qD hi (by grind)]) hk
 unfold Qr;have e:zY (fun i=>zY (fun j=>decide (cell p j i=zA (0-cell p i j))) N 0) N 0=xX N p:=by
  rw[Bool.eq_iff_iff];simp[xX,wJ];grind
 grind
theorem vIp {k:Nat}(hk:10<k)(a:List yG)(b:EQ)(m:AC)(p:EQ):Fp k a b m p=some (kY a b m p):=by
 unfold Fp;have l1:decide ((a.length:Int)<1)= !decide (1≤a.length):=by
  by_cases h:1≤a.length
  ·rw[aa h,ab];rfl
  ·rw[ab h,aa];rfl
 have l2:decide ((a.length:Int)>6)= !decide (a.length≤6):=by
  by_cases h:a.length≤6
  ·rw[aa h,ab];rfl
  ·rw[ab h,aa];rfl
 rw[l1,l2];unfold kY;dsimp only;by_cases h1:1≤a.length
 case neg=>rw[ab h1];rfl
 by_cases h2:a.length≤6
 case neg=>rw[aa h1,ab h2];rfl
 rw[aa h1,aa h2];simp only[aA,ak,Bool.true_and];rw[Y6 (by omega) (by omega),Zd (by omega) (by omega),yZu (by omega) (by omega),Ze (by omega) (by omega)];simp only[ae];generalize hA:zY (fun i=>fH (a.getD i (0,0,0))) a.length 0=A;have sq:∀(q:Int→Bool) (m:EQ),(decide (m.length=a.length)&&zY (fun i=>decide ((m.getD i []).length=a.length)&&zY (fun j=>q (cell m i j)) a.length 0) a.length 0)=(nu a.length m&&qq q a.length m):=by
  intro q m;rw[Bool.eq_iff_iff];simp only[nu,qq,aR,ba,wJ];exact⟨fun h=>⟨⟨h.1,fun i hi=>(h.2 i hi).1⟩,fun i hi=>(h.2 i hi).2⟩,fun h=>⟨h.1.1,fun i hi=>⟨h.1.2 i hi,h.2 i hi⟩⟩⟩
 rw[sq jD b,sq iE p];cases hp:nu a.length p with
 |false=>
  cases A<;>cases nu a.length b<;>cases qq jD a.length b<;>cases decide (m.length=a.length)<;>cases zY (fun i=>jD (m.getD i 0)) a.length 0<;>rfl
 |true=>
  simp only[nu,aR,ba,wJ] at hp;rw[Zf (N:=a.length) (by omega) (by omega) hp.1 hp.2];cases A<;>cases nu a.length b<;>cases qq jD a.length b<;>cases decide (m.length=a.length)<;>cases zY (fun i=>jD (m.getD i 0)) a.length 0<;>cases qq iE a.length p<;>cases xX a.length p<;>rfl
theorem vD0 {k N:Nat}{s}(hN:s.length=N)(hl:N≤9999)(hr:∀i,i<N→(s.getD i []).length≤9999):∀c i n,i+c=N→c<n→K8 k n s i (s.take i)=some s
 |0,i,n,h,hn=>by
  obtain⟨n,rfl⟩:=aoa n;show Fq k _ s i (s.take i)=_;unfold Fq;grind
 |c+1,i,n,h,hn=>by
  obtain⟨n,rfl⟩:=aoa n;show Fq k _ s i (s.take i)=_;unfold Fq;have hi:i<s.length:=by omega
  have h1:=hr i (by omega);have e1:zL (0+(s.getD i []).length) 8=true:=qF;have e2:zL ((s.take i).length+1) 24=true:=qF (by grind) (by grind);simp only[qB,qD hi (by grind),qZ,ao,aa hi,e1,e2];rw[fE s i [] hi];exact vD0 hN hl hr c (i+1) n (by omega) (by omega)
theorem yUj {k s}(hl:s.length≤9999)(hk:s.length<k)(hr:∀i,i<s.length→(s.getD i []).length≤9999):K9 k s=some s:=by
 unfold K9;have:=vD0 (k:=k) rfl hl hr s.length 0 k (by omega) hk;simp_all
theorem vGi {k N:Nat}{s}(hN:s.length=N)(hl:N≤9999)(hr:∀i,i<N→(s.getD i []).length≤9999):∀c i n,i+c=N→c<n→La k n s N i (s.take i) N=some (s,N)
 |0,i,n,h,hn=>by
  obtain⟨n,rfl⟩:=aoa n;show Fs k _ s N i (s.take i) N=_;unfold Fs;grind
 |c+1,i,n,h,hn=>by
  obtain⟨n,rfl⟩:=aoa n;show Fs k _ s N i (s.take i) N=_;unfold Fs qs;have hi:i<N:=by omega
  have h1:=hr i (by omega);have e1:zL (0+(s.getD i []).length) 8=true:=qF;have e2:Nat.beq i (s.take i).length=true:=by rw[bZ,Nat.min_eq_left (by omega)];simp
  simp only[qB,qD hi (by grind),qZ,ao,aa hi,ag,e1,e2,hN,ae];rw[fE s i [] (by omega)];exact vGi hN hl hr c (i+1) n (by omega) (by omega)
theorem yUs {k s}(hl:s.length≤9999)(hk:s.length<k)(hr:∀i,i<s.length→(s.getD i []).length≤9999):Lb k s=some s:=by
 unfold Lb Zg;have:=vGi (k:=k) rfl hl hr s.length 0 k (by omega) hk;rw[List.take_zero] at this;have e:((0:Nat):Int)=0:=rfl;rw[e] at this;have e1:zL (0+s.length) 24=true:=qF;simp only[e1,ag,ae];rw[this];simp only[vY6];simp
structure Sized (a:List yG) (b:EQ) (m:AC) (p:EQ):Prop where
 n1:1≤a.length
 n6:a.length≤6
 bl:b.length=a.length
 br:∀i,i<a.length→(b.getD i []).length=a.length
 ml:m.length=a.length
 pl:p.length=a.length
 pr:∀i,i<a.length→(p.getD i []).length=a.length
structure jA (a:List yG) (b:EQ) (m:AC) (p:EQ):Prop extends Sized a b m p where
 acct:∀i,i<a.length→fH (a.getD i (0,0,0))=true
 mul:∀i,i<a.length→jD (m.getD i 0)=true
 bil:∀i,i<a.length→∀j,j<a.length→jD (cell b i j)=true
 net:∀i,i<a.length→∀j,j<a.length→iE (cell p i j)=true
 turn:∀i,i<a.length→∀j,j<a.length→cell p i j=zA (0-cell p j i)
theorem Ft {a:List yG}{b:EQ}{m:AC}{p:EQ}:kY a b m p=true↔jA a b m p:=by
 unfold kY;simp only[aR,ba,nu,qq,xX,wJ];constructor
 ·rintro⟨h1,h2,⟨h3,h4⟩,⟨h5,h6⟩,h7,h8,h9,Zh,Zi,Lc⟩
  exact{n1:=h1,n6:=h2,bl:=h3,br:=h4,ml:=h7,pl:=h5,pr:=h6,acct:=h8,mul:=h9,bil:=Zh,net:=Zi,turn:=Lc}
 ·intro h;exact⟨h.n1,h.n6,⟨h.bl,h.br⟩,⟨h.pl,h.pr⟩,h.ml,h.acct,h.mul,h.bil,h.net,h.turn⟩
theorem Ld {k}(hk:10<k){a b m p}(h:Sized a b m p):pw k a b m p=some (a,b,m,p):=by
 obtain⟨h1,h2,h3,h4,h5,h6,h7⟩:=h;unfold pw;have e1:zL (0+a.length) 24=true:=qF;have e2:zL (0+m.length) 8=true:=qF;rw[yUj (s:=b) (by omega) (by omega) (by grind),yUj (s:=p) (by omega) (by omega) (by grind)];grind
theorem Le {k}(hk:10<k){a b m p}(h:Sized a b m p):gG k a b m p=some (a,b,m,p):=by
 obtain⟨h1,h2,h3,h4,h5,h6,h7⟩:=h;unfold gG Zj qs;have e1:zL (0+a.length) 24=true:=qF;have e2:zL (0+m.length) 8=true:=qF;rw[yUs (s:=b) (by omega) (by omega) (by grind),yUs (s:=p) (by omega) (by omega) (by grind)];grind
theorem Lf {α:Type} d [DecidableEq α]{a b:List α}(h:a.length=b.length):zY (fun i=>decide (a.getD i d=b.getD i d)) a.length 0=decide (a=b):=by
 rw[Bool.eq_iff_iff,wJ];simp;exact⟨fun h'=>EW d h h',by grind⟩
theorem Qs {k:Nat}{a b:AC}(hk:a.length<k)(hl:a.length<9223372036854775808):uL k a b=some (decide (a=b)):=by
 unfold uL;simp only[sV];by_cases h:a.length=b.length
 ·have := eQ (L := fun c i => Lg k c a b i) (N := a.length) (fun i => decide (a.getD i 0 = b.getD i 0)) (.inl ()) (.inr false) (fun c=>by
    show Fu k _ a b a.length=_;unfold Fu;simp only [qZ, ab (Nat.lt_irrefl _), ak]) (fun c i hi=>by
    show Fu k _ a b i=_;unfold Fu;simp only[qB,qD hi hl,qZ,ao,←h,aa hi,ag];cases decide (a.getD i 0=b.getD i 0)<;>rfl) hk
  rw[Lf 0 h] at this;simp only[h,decide_true,aA,ak];rw[this];cases decide (a=b)<;>rfl
 ·simp only[ab h,bO,ag];rw[ab fun e=>h (by rw[e])]
theorem Zk {k:Nat}{a b:EQ}(hk:a.length<k)(hl:a.length<9223372036854775808)(hr:∀i,i<a.length→(a.getD i []).length<k∧(a.getD i []).length<9223372036854775808):B8 k a b=some (decide (a=b)):=by
 unfold B8;simp only[sV];by_cases h:a.length=b.length
 ·have := eQ (L := fun c i => Lh k c a b i) (N := a.length) (fun i => decide (a.getD i [] = b.getD i [])) (.inl ()) (.inr false) (fun c=>by
    show Fv k _ a b a.length=_;unfold Fv;simp only [qZ, ab (Nat.lt_irrefl _), ak]) (fun c i hi=>by
    show Fv k _ a b i=_;unfold Fv;simp only[qB,qD hi hl,qZ,ao,←h,aa hi,ag,Qs (hr i hi).1 (hr i hi).2,ae];cases decide (a.getD i []=b.getD i [])<;>rfl) hk
  rw[Lf [] h] at this;simp only[h,decide_true,aA,ak];rw[this];cases decide (a=b)<;>rfl
 ·simp only[ab h,bO,ag];rw[ab fun e=>h (by rw[e])]
theorem Zl {k:Nat}(hk:10<k){a:List yG}{b:EQ}{m:AC}{p:EQ}(h:Sized a b m p)(a':List yG)(b':EQ)(m':AC)(p':EQ):
  Li k a b m p a' b' m' p'=some (decide (a=a')&&(decide (b=b')&&(decide (p=p')&&decide (m=m')))):=by
 obtain⟨h1,h2,h3,h4,h5,h6,h7⟩:=h;unfold Li;simp only[sV];by_cases hl:a.length=a'.length
 ·rw[Zk (a:=b) (by omega) (by omega) (fun i hi=>by rw[h4 i (by omega)];omega),Zk (a:=p) (by omega) (by omega) (fun i hi=>by rw[h7 i (by omega)];omega),Qs (by omega) (by omega)];have := eQ (L := fun c i => Lj k c i a b m p a' b' m' p') (N := a.length) (fun i => decide (a.getD i (0, 0, 0) = a'.getD i (0, 0, 0))) (.inl ()) (.inr false) (fun c=>by
    show Fw k _ a.length a b m p a' b' m' p'=_;unfold Fw;simp only [qZ, ab (Nat.lt_irrefl _), ak]) (fun c i hi=>by
    show Fw k _ i a b m p a' b' m' p'=_;unfold Fw;simp only[qB,qD hi (show a.length<9223372036854775808 by omega),qZ,ao,←hl,aa hi,ag];have e:decide (a.getD i (0,0,0)=a'.getD i (0,0,0))=(decide ((a.getD i (0,0,0)).1=(a'.getD i (0,0,0)).1)&&(decide ((a.getD i (0,0,0)).2.1=(a'.getD i (0,0,0)).2.1)&&decide ((a.getD i (0,0,0)).2.2=(a'.getD i (0,0,0)).2.2))):=by
     rw[Bool.eq_iff_iff];simp only[aR,ba];exact⟨fun h=>by rw[h];exact⟨rfl,rfl,rfl⟩,fun h=>Prod.ext h.1 (Prod.ext h.2.1 h.2.2)⟩
    rw[e];generalize (decide ((a.getD i (0,0,0)).1=(a'.getD i (0,0,0)).1)&&_)=r;cases r<;>rfl) (show a.length<k by omega)
  rw[Lf (0,0,0) hl] at this;simp only[hl,decide_true,aA,ak,ae];have e0:((0:Nat):Int)=0:=rfl;rw[this];cases decide (b=b')<;>cases decide (p=p')<;>cases decide (m=m')<;>cases decide (a=a')<;>rfl
 ·simp only[ab hl,bO,ag];rw[ab fun e=>hl (by rw[e])];rfl
abbrev pd:zJ:=(0,(0,(0,(0,(0,(0,0))))))
abbrev ad:yG:=(0,(0,0))
def px (n:Nat)(p:zJ):Bool:=decide (p.2.1≥0)&&(decide (p.2.1<(n:Int))&&(decide (p.2.2.1≥0)&&(decide (p.2.2.1<(n:Int))&&(!decide (p.2.1=p.2.2.1)&&(decide (p.2.2.2.1≥1)&&(decide (p.2.2.2.1≤1099511627776)&&(decide (p.2.2.2.2.1≥1)&&decide (p.2.2.2.2.1≤3))))))))
structure yR (n:Nat) (p:zJ):Prop where
 f0:0≤p.2.1
 f1:p.2.1<n
 t0:0≤p.2.2.1
 t1:p.2.2.1<n
 ne:p.2.1≠p.2.2.1
 a1:1≤p.2.2.2.1
 a2:p.2.2.2.1≤1099511627776
 c1:1≤p.2.2.2.2.1
 c3:p.2.2.2.2.1≤3
theorem Zm {n p}:px n p=true↔yR n p:=by
 unfold px;simp;exact⟨fun⟨h1,h2,h3,h4,h5,h6,h7,h8,h9⟩=>⟨h1,h2,h3,h4,h5,h6,h7,h8,h9⟩,fun⟨h1,h2,h3,h4,h5,h6,h7,h8,h9⟩=>by grind⟩
theorem Qt k (a:List yG) b m p i f t am c s ti:Fx k a b m p i f t am c s ti=some (px a.length (i,f,t,am,c,s,ti)):=by
 unfold Fx px;grind
theorem vDa k (a:List yG) b m p i f t am c s ti:Qu k a b m p i f t am c s ti=some (px a.length (i,f,t,am,c,s,ti)):=Qt k a b m p i f t am c s ti
def om (n:Nat)(l:List zJ):Bool:=zY (fun i=>px n (l.getD i pd)) l.length 0
theorem B9 {n l}:om n l=true↔∀p∈l,yR n p:=by
 unfold om;rw[wJ];constructor
 ·intro h p hp;obtain⟨i,hi,rfl⟩:=List.getElem_of_mem hp;have:=h i hi;rw[bT,List.getElem?_eq_getElem hi] at this;exact Zm.1 this
 ·intro h i hi;exact Zm.2 (by grind)
theorem Zn {k}{l:List zJ}(hk:l.length<k)(hl:l.length<9223372036854775808)(a:List yG) b m p:Qv k l a b m p=some (!om a.length l):=by
 obtain ⟨x, h1, h2⟩ := pt (L := fun c i => Lk k c l l.length i a b m p) (N := l.length) (fun i => !px a.length (l.getD i pd)) (fun c=>by
  show Fy k _ l l.length l.length a b m p=_;unfold Fy;simp) (fun c i hi=>by
  show Fy k _ l l.length i a b m p=_;unfold Fy Zo;simp[qB,qD hi hl,aa hi,Qt]) hk
 unfold Qv Zp;unfold om;grind
theorem yH0 {k}{l:List zJ}(hk:l.length<k)(hl:l.length<9223372036854775808)(a:List yG) b m p:Ll k a b m p l=some (om a.length l&&decide (l.length≤64)):=by
 unfold Ll;have := eQ (L := fun c i => Lm k c l i a b m p) (N := l.length) (fun i => px a.length (l.getD i pd)) (.inl l) (.inr false) (fun c=>by
  show Fz k _ l l.length a b m p=_;unfold Fz;simp) (fun c i hi=>by
  show Fz k _ l i a b m p=_;unfold Fz;simp only[qB,qD hi hl,qZ,aa hi,vDa];simp) hk
 unfold om;have e:decide (((l.length:Nat):Int)≤64)=decide (l.length≤64):=by
  grind
 grind
def gB (i:Nat)(p:zJ):Int:=(if p.2.2.1=i then p.2.2.2.1 else 0)-(if p.2.1=i then p.2.2.2.1 else 0)
def gS (i j:Nat)(p:zJ):Int:=if p.2.1=i∧p.2.2.1=j then p.2.2.2.1 else 0
def gR (i:Nat)(p:zJ):Int:=if p.2.1=i∧p.2.2.2.2.1≠3 then p.2.2.2.1 else 0
def jI (r s:Int):Int:=if s≥r then 0 else r-s
theorem Zq {r s t}(hs:0≤s)(ht:0≤t):jI (jI r s) t=jI r (s+t):=by
 unfold jI;omega
theorem Zr {r}(hr:0≤r):jI r 0=r:=by
 unfold jI;omega
theorem Zs {r s}:0≤jI r s:=by
 unfold jI;omega
theorem Zt {r s}(hr:0≤r)(hs:0≤s):jI r s≤r:=by
 unfold jI;omega
section
variable {n:Nat} {p:zJ}
theorem vTx (h:yR n p) i:-1099511627776≤gB i p∧gB i p≤1099511627776:=by
 have h1:=h.a1;have h2:=h.a2;unfold gB;omega
theorem Zu (h:yR n p) i j:0≤gS i j p∧gS i j p≤1099511627776:=by
 have h1:=h.a1;have h2:=h.a2;unfold gS;omega
theorem Qw (h:yR n p) i:0≤gR i p∧gR i p≤1099511627776:=by
 have h1:=h.a1;have h2:=h.a2;unfold gR;omega
end
def wH (n:Nat)(l:List zJ):Prop:=(∀p∈l,yR n p)∧l.length≤64
theorem Zv {n l}(h:wH n l) i:-70368744177664≤zQ (gB i) l∧zQ (gB i) l≤70368744177664:=by
 have h1:=B1 (g:=gB i) (A:=1099511627776) fun p hp=>vTx (h.1 p hp) i
 have h2:=h.2;omega
theorem uM {n l}(h:wH n l) i j:0≤zQ (gS i j) l∧zQ (gS i j) l≤70368744177664:=by
 have h1:=B1 (g:=gS i j) (A:=1099511627776) fun p hp=>by have:=Zu (h.1 p hp) i j;omega
 have h0:=xP (g:=gS i j) fun p hp=>(Zu (h.1 p hp) i j).1
 have h2:=h.2;omega
theorem Ca {n l}(h:wH n l) i:0≤zQ (gR i) l∧zQ (gR i) l≤70368744177664:=by
 have h1:=B1 (g:=gR i) (A:=1099511627776) fun p hp=>by have:=Qw (h.1 p hp) i;omega
 have h0:=xP (g:=gR i) fun p hp=>(Qw (h.1 p hp) i).1
 have h2:=h.2;omega
theorem wH.take {n l}(h:wH n l) i:wH n (l.take i):=⟨fun p hp=>h.1 p (by grind),by rw[bZ];have:=h.2;omega⟩
structure uN (n:Nat) (a:List yG) (p:EQ) (l:List zJ) (a':List yG) (p':EQ):Prop where
 al:a'.length=n
 acct:∀i,i<n→a'.getD i ad=((a.getD i ad).1+zQ (gB i) l,(a.getD i ad).2.1,jI (a.getD i ad).2.2 (zQ (gR i) l))
 pl:p'.length=n
 pr:∀i,i<n→(p'.getD i []).length=n
 cell:∀i,i<n→∀j,j<n→cell p' i j=cell p i j+zQ (gS i j) l-zQ (gS j i) l
theorem vV8 {n p q}(hp:p.length=n)(hq:q.length=n)(pv:∀i,i<n→(p.getD i []).length=n)(hqr:∀i,i<n→(q.getD i []).length=n)(h:∀i,i<n→∀j,j<n→cell p i j=cell q i j):p=q:=
 EW [] (by omega) fun i hi=>EW 0 (by simp_all) fun j hj=>h i (by omega) j (by simp_all)
theorem uN.same {n a a1 a2 p p1 p2 l}(x:uN n a p l a1 p1)(y:uN n a p l a2 p2):a1=a2∧p1=p2:=
 ⟨EW ad (by rw[x.al,y.al]) fun i hi=>by have:=x.al;rw[x.acct i (by omega),y.acct i (by omega)],
  vV8 x.pl y.pl x.pr y.pr fun i hi j hj=>by rw[x.cell i hi j hj,y.cell i hi j hj]⟩
structure Qx (n:Nat) (a:List yG) (p:EQ):Prop where
 al:a.length=n
 pl:p.length=n
 pr:∀i,i<n→(p.getD i []).length=n
 bal:∀i,i<n→-4611686018427387904<(a.getD i ad).1∧(a.getD i ad).1<4611686018427387904
 res:∀i,i<n→0≤(a.getD i ad).2.2∧(a.getD i ad).2.2≤2305843009213693952
 net:∀i,i<n→∀j,j<n→-72057594037927936<cell p i j∧cell p i j<72057594037927936
theorem jA.nums {a b m p}(h:jA a b m p):Qx a.length a p where
 al:=rfl
 pl:=h.pl
 pr:=h.pr
 bal:=fun i hi=>by
  have:=h.acct i hi;show-4611686018427387904<(a.getD i (0,0,0)).1∧(a.getD i (0,0,0)).1<4611686018427387904;simp only[fH,aR,ba] at this;omega
 res:=fun i hi=>by
  have:=h.acct i hi;show 0≤(a.getD i (0,0,0)).2.2∧(a.getD i (0,0,0)).2.2≤2305843009213693952;simp only[fH,aR,ba] at this;omega
 net:=fun i hi j hj=>by
  have:=h.net i hi j hj;simp[iE] at this;omega
theorem Zw {m f t i j x}(hf:f<m.length)(ht:t<(m.getD f []).length):cell (m.set f ((m.getD f []).set t x)) i j=if i=f∧j=t then x else cell m i j:=by
 unfold cell;grind
theorem Qy {n}{m:EQ}{f t x}(hm:m.length=n)(hr:∀i,i<n→(m.getD i []).length=n)(hf:f<n):∀i,i<n→((m.set f ((m.getD f []).set t x)).getD i []).length=n:=by
 grind
def FA (p:zJ)(r:List yG):List yG:=
 let y0:=r.set p.2.1.toNat (zA ((r.getD p.2.1.toNat ad).1-p.2.2.2.1),(r.getD p.2.1.toNat ad).2);let y1:=y0.set p.2.2.1.toNat (zA ((y0.getD p.2.2.1.toNat ad).1+p.2.2.2.1),(y0.getD p.2.2.1.toNat ad).2)
 bif !decide (p.2.2.2.2.1=3) then y1.set p.2.1.toNat ((y1.getD p.2.1.toNat ad).1,((y1.getD p.2.1.toNat ad).2.1,yI false (zA ((y1.getD p.2.1.toNat ad).2.2-p.2.2.2.1)) 0)) else y1
def xZ (p:zJ)(m:EQ):EQ:=
 let y3:=m.set p.2.1.toNat ((m.getD p.2.1.toNat []).set p.2.2.1.toNat (zA ((m.getD p.2.1.toNat []).getD p.2.2.1.toNat 0+p.2.2.2.1)))
 y3.set p.2.2.1.toNat ((y3.getD p.2.2.1.toNat []).set p.2.1.toNat (zA ((y3.getD p.2.2.1.toNat []).getD p.2.1.toNat 0-p.2.2.2.1)))
theorem Zx p r:(FA p r).length=r.length:=by
 unfold FA;grind
theorem vZh {n p}(h:yR n p){r}(hr:r.length=n){i}(hi:i<n)(hb:∀i,i<n→-4611826755915743232<(r.getD i ad).1∧(r.getD i ad).1<4611826755915743232)
  (hz:∀i,i<n→0≤(r.getD i ad).2.2∧(r.getD i ad).2.2≤2305843009213693952):(FA p r).getD i ad=((r.getD i ad).1+gB i p,(r.getD i ad).2.1,jI (r.getD i ad).2.2 (gR i p)):=by
 obtain⟨f0,f1,t0,t1,ne,a1,a2,c1,c3⟩:=h;obtain⟨f,hf⟩:∃f:Nat,p.2.1=f:=⟨p.2.1.toNat,by omega⟩;obtain⟨t,ht⟩:∃t:Nat,p.2.2.1=t:=⟨p.2.2.1.toNat,by omega⟩;have Qz:f≠t:=by omega
 have iF:f<n:=by omega
 have gY:t<n:=by omega
 have bf:=hb f iF;have bt:=hb t gY;have zf:=hz f iF;have e1:(r.set f (zA ((r.getD f ad).1-p.2.2.2.1),(r.getD f ad).2)).getD t ad=r.getD t ad:=by rw[fF,if_neg (fun e=>Qz e.1)]
 have key:∀j,j<n→((r.set f (zA ((r.getD f ad).1-p.2.2.2.1),(r.getD f ad).2)).set t (zA ((r.getD t ad).1+p.2.2.2.1),(r.getD t ad).2)).getD j ad=((r.getD j ad).1+gB j p,(r.getD j ad).2):=by
  intro j hj;unfold gB;rw[hf,ht,fF];by_cases hjt:t=j
  ·subst hjt;rw[if_pos (by grind),if_pos rfl,if_neg (by omega),zP];simp
  ·rw[if_neg (fun e=>hjt e.1),if_neg (by omega),fF];by_cases hjf:f=j
   ·subst hjf;rw[if_pos ⟨rfl,by omega⟩,if_pos rfl,zP];simp only[Int.zero_sub];rfl
   ·rw[if_neg (fun e=>hjf e.1),if_neg (by omega)];simp
 unfold FA;simp only[hf,ht,ao,e1];unfold gR;cases hc:decide (p.2.2.2.2.1=3) with
 |true=>
  have mb:p.2.2.2.2.1=3:=by simpa using hc
  simp only[aA,ak];rw[key i hi,if_neg (fun e=>e.2 mb),Zr (hz i hi).1]
 |false=>
  have mb:p.2.2.2.2.1≠3:=by simpa using hc
  simp only[bO,ag];rw[fF];by_cases hif:f=i
  ·subst hif;rw[if_pos (by grind),key f iF,if_pos ⟨hf,mb⟩];have:yI false (zA ((r.getD f ad).2.2-p.2.2.2.1)) 0=jI (r.getD f ad).2.2 p.2.2.2.1:=by
    rw[zP];unfold yI jI;grind
   rw[this]
  ·rw[if_neg (fun e=>hif e.1),key i hi,if_neg (by omega),Zr (hz i hi).1]
theorem vKy {n:Nat}{p:zJ}(h:yR n p){m:EQ}(hm:m.length=n)(hr:∀i,i<n→(m.getD i []).length=n)(hb:∀i,i<n→∀j,j<n→-72128000000000000<cell m i j∧cell m i j<72128000000000000):
  (xZ p m).length=n∧(∀i,i<n→((xZ p m).getD i []).length=n)∧∀i,i<n→∀j,j<n→cell (xZ p m) i j=cell m i j+gS i j p-gS j i p:=by
 obtain⟨f0,f1,t0,t1,ne,a1,a2,c1,c3⟩:=h;obtain⟨f,hf⟩:∃f:Nat,p.2.1=f:=⟨p.2.1.toNat,by omega⟩;obtain⟨t,ht⟩:∃t:Nat,p.2.2.1=t:=⟨p.2.2.1.toNat,by omega⟩;have Qz:f≠t:=by omega
 have iF:f<n:=by omega
 have gY:t<n:=by omega
 unfold xZ;simp only[hf,ht,ao];have r1:=Qy (x:=zA ((m.getD f []).getD t 0+p.2.2.2.1)) (t:=t) hm hr iF;have c1:∀i j,cell (m.set f ((m.getD f []).set t (zA ((m.getD f []).getD t 0+p.2.2.2.1)))) i j=if i=f∧j=t then zA (cell m f t+p.2.2.2.1) else cell m i j:=fun i j=>Zw (by omega) (by rw[hr f iF];omega)
 refine⟨by simp only[List.length_set];exact hm,by grind,fun i hi j hj=>?_⟩;rw[Zw (by rw[List.length_set];omega) (by rw[r1 t gY];omega)];have e2:((m.set f ((m.getD f []).set t (zA ((m.getD f []).getD t 0+p.2.2.2.1)))).getD t []).getD f 0=cell m t f:=by
  show cell _ t f=_;simp_all
 rw[e2,c1];unfold gS;rw[hf,ht];have b1:=hb f iF t gY;have b2:=hb t gY f iF;by_cases h1:i=t∧j=f
 ·obtain⟨rfl,rfl⟩:=h1;rw[if_pos ⟨rfl,rfl⟩,if_neg (by omega),if_pos ⟨rfl,rfl⟩,zP];omega
 ·rw[if_neg h1];by_cases h2:i=f∧j=t
  ·obtain⟨rfl,rfl⟩:=h2;rw[if_pos ⟨rfl,rfl⟩,if_pos ⟨rfl,rfl⟩,if_neg (by omega),zP];omega
  omega
theorem Zy {k n a b m p l}(hk:l.length<k)(hx:Qx n a p)(hl:wH n l)(b0:List yG) b1 b2 b3:
  ∃a' p',FB k k l l.length 0 b0 b1 b2 b3 a b m p=some (b0,b1,b2,b3,a',b,m,p')∧uN n a p l a' p':=by
 have := vA (L := fun c i (s : List yG × EQ) => FB k c l l.length i b0 b1 b2 b3 s.1 b m s.2) (N := l.length) (fun s => (b0, b1, b2, b3, s.1, b, m, s.2)) (fun i s => uN n a p (l.take i) s.1 s.2) (fun c s hs=>by
   show FC k _ l l.length l.length b0 b1 b2 b3 s.1 b m s.2=_;unfold FC;simp) (fun c i s hi hs=>by
   refine⟨(FA (l.getD i pd) s.1,xZ (l.getD i pd) s.2),?_,?_⟩
   ·show FC k _ l l.length i b0 b1 b2 b3 s.1 b m s.2=_;have ca:yR n (l.getD i pd):=hl.1 _ (fD hi);unfold FC FA xZ;have oq:=hl.2;simp only[qB,qD hi (by grind),qZ,ao,aa hi,ag];obtain⟨f0,f1,t0,t1,ne,a1,a2,c1,c3⟩:=ca;obtain⟨f,hf⟩:∃f:Nat,(l.getD i pd).2.1=f:=⟨(l.getD i pd).2.1.toNat,by omega⟩;obtain⟨t,ht⟩:∃t:Nat,(l.getD i pd).2.2.1=t:=⟨(l.getD i pd).2.2.1.toNat,by omega⟩;have iF:f<n:=by omega
    have gY:t<n:=by omega
    have r1:=Qy (x:=zA ((s.2.getD f []).getD t 0+(l.getD i pd).2.2.2.1)) (t:=t) hs.pl hs.pr iF;simp only[hf,ht,ao,qB,hs.al,hs.pl,List.length_set,hs.pr f iF,r1 t gY,aa iF,aa gY,ag,ya,ae];grind
   ·have ca:yR n (l.getD i pd):=hl.1 _ (fD hi);have aU:=hl.take i;have hp := vKy ca hs.pl hs.pr (fun i' bI j' nf=>by
     rw[hs.cell i' bI j' nf];have h1:=hx.net i' bI j' nf;have h2:=uM aU i' j';have h3:=uM aU j' i';omega)
    refine⟨by rw[Zx];exact hs.al,fun i' bI=>?_,hp.1,hp.2.1,fun i' bI j' nf=>?_⟩
    ·rw [vZh ca hs.al bI (fun j hj=>by
       rw[hs.acct j hj];have h1:=hx.bal j hj;have h2:=Zv aU j;dsimp only;omega) (fun j hj=>by
       rw[hs.acct j hj];have h1:=hx.res j hj;have h2:=Ca aU j;dsimp only;exact⟨Zs,Int.le_trans (Zt h1.1 h2.1) h1.2⟩),hs.acct i' bI,←fE l i pd hi,kU,kU]
     dsimp only[zQ];rw[Zq (Ca aU i').1 (Qw ca i').1,Int.add_zero,Int.add_zero,Int.add_assoc]
    ·rw[hp.2.2 i' bI j' nf,hs.cell i' bI j' nf,←fE l i pd hi,kU,kU];dsimp only[zQ];omega) (s:=(a,p)) hk ⟨hx.al,fun i hi=>by
      rw[List.take_zero];show a.getD i ad=((a.getD i ad).1+0,(a.getD i ad).2.1,jI (a.getD i ad).2.2 0);rw[Zr (hx.res i hi).1,Int.add_zero],hx.pl,hx.pr,fun i hi j hj=>by
      rw[List.take_zero];show cell p i j=cell p i j+0-0;omega⟩
 simp_all
theorem Zz {k n l}(hk:l.length<k)(hl:wH n l)(i j:Nat):yc k l i j=some (zQ (gS i j) l):=by
 have oq:=hl.2;obtain ⟨s, h1, h2⟩ := vA (L := fun c x (s : Int) => Ln k c l i j s x) (N := l.length) (fun s => s) (fun x s => s = zQ (gS i j) (l.take x)) (fun c s hs=>by
   show FD k _ l i j s l.length=_;unfold FD;simp) (fun c x s hx hs=>by
   refine⟨zQ (gS i j) (l.take (x+1)),?_,rfl⟩;show FD k _ l i j s x=_;have hb:=uM (hl.take x) i j;have hm:yR n (l.getD x pd):=hl.1 _ (by grind);have e:zQ (gS i j) (l.take (x+1))=s+gS i j (l.getD x pd):=by
    rw[←fE l x pd hx,kU,hs];show _+(_+0)=_;omega
   have w:=zP (x:=s+(l.getD x pd).2.2.2.1) (by have:=hm.a1;omega) (by have:=hm.a2;omega);unfold FD;simp[qB,qD hx (by grind)];rw[e];unfold gS;grind) (s:=0) hk rfl
 unfold yc;simp_all
theorem ZA {k n l}(hk:l.length<k)(hl:wH n l)(i j:Nat):QA k l i j=some (zQ (gS i j) l-zQ (gS j i) l):=by
 unfold QA;rw[Zz hk hl i j,Zz hk hl j i];have h1:=uM hl i j;have h2:=uM hl j i;simp;rw[zP]
def gN (i:Nat)(p:zJ):Int:=if p.2.1=i∧p.2.2.2.2.1=3 then p.2.2.2.1 else 0
theorem QB {n p}(h:yR n p) i:0≤gN i p∧gN i p≤1099511627776:=by
 have h1:=h.a1;have h2:=h.a2;unfold gN;omega
theorem yOj {n l}(h:wH n l) i:0≤zQ (gN i) l∧zQ (gN i) l≤70368744177664:=by
 have h1:=B1 (g:=gN i) (A:=1099511627776) fun p hp=>by have:=QB (h.1 p hp) i;omega
 have h0:=xP (g:=gN i) fun p hp=>(QB (h.1 p hp) i).1
 have h2:=h.2;omega
theorem yM0 {k n:Nat}{l}(hk:l.length<k)(hl:wH n l)(i:Nat):Lp k l i=some (zQ (gN i) l,zQ (gR i) l):=by
 have oq:=hl.2;obtain ⟨s, h1, h2⟩ := vA (L := fun c x (s : Int × Int) => Lq k c l i s.1 s.2 x) (N := l.length) (fun s => s) (fun x s => s = (zQ (gN i) (l.take x), zQ (gR i) (l.take x))) (fun c s hs=>by
   show FE k _ l i s.1 s.2 l.length=_;unfold FE;simp) (fun c x s hx hs=>by
   refine⟨(zQ (gN i) (l.take (x+1)),zQ (gR i) (l.take (x+1))),?_,rfl⟩;show FE k _ l i s.1 s.2 x=_;have hb:=yOj (hl.take x) i;have bg:=Ca (hl.take x) i;have hm:yR n (l.getD x pd):=hl.1 _ (by grind);have e:zQ (gN i) (l.take (x+1))=s.1+gN i (l.getD x pd):=by
    rw[←fE l x pd hx,kU,hs];show _+(_+0)=_;omega
   have e':zQ (gR i) (l.take (x+1))=s.2+gR i (l.getD x pd):=by
    rw[←fE l x pd hx,kU,hs];show _+(_+0)=_;omega
   have w:=zP (x:=s.1+(l.getD x pd).2.2.2.1) (by have:=hm.a1;grind) (by have:=hm.a2;grind);have w':=zP (x:=s.2+(l.getD x pd).2.2.2.1) (by have:=hm.a1;rw[hs];omega) (by have:=hm.a2;grind);unfold FE;simp only[qB,qD hx (by grind),qZ,ag];rw[e,e'];unfold gN gR;grind) (s:=(0,0)) hk rfl
 unfold Lp;simp_all
theorem vPp {k n l}(hk:l.length<k)(hl:wH n l)(i:Nat):QC k l i=some (zQ (gR i) l):=by
 unfold QC;rw[yM0 hk hl i];rfl
theorem yUl k b c r s (h:-9223372036854775808≤r-s)(h':r<9223372036854775808)(hs:0≤s):Lr k b c r s=some (jI r s):=by
 unfold Lr jI;by_cases e:s≥r
 ·simp_all
 ·rw[ab e,if_neg e,zP h (by omega)];rfl
theorem vDp {n l}(hl:∀p∈l,yR n p) i (hi:i<n):qJ (fun j=>zQ (gS i j) l-zQ (gS j i) l) n= -zQ (gB i) l:=by
 have e1:qJ (fun j=>zQ (gS i j) l-zQ (gS j i) l) n=qJ (fun j=>zQ (fun p=>gS i j p-gS j i p) l) n:=sW fun j _=>(YO _ _ l).symm
 rw[e1,P4 (fun j p=>gS i j p-gS j i p)];have e2:∀p∈l,qJ (fun j=>gS i j p-gS j i p) n=0-gB i p:=by
  intro p hp;obtain⟨f0,f1,t0,t1,ne,a1,a2,c1,c3⟩:=hl p hp;obtain⟨f,hf⟩:∃f:Nat,p.2.1=f:=⟨p.2.1.toNat,by omega⟩;obtain⟨t,ht⟩:∃t:Nat,p.2.2.1=t:=⟨p.2.2.1.toNat,by omega⟩;have g1:∀j,gS i j p-gS j i p=(if j=t then(if f=i then p.2.2.2.1 else 0) else 0)+(if j=f then(if t=i then-p.2.2.2.1 else 0) else 0):=by
   unfold gS;omega
  rw[sW fun j _=>g1 j,EV,B2,B2];unfold gB;omega
 rw[P3 e2,YO];have:zQ (fun _:zJ=>(0:Int)) l=0:=by
  clear e1 e2 hl
  induction l with
  |nil=>rfl
  |cons p l ih=>show 0+zQ _ l=0;omega
 omega
structure ZB (n:Nat) (a:List yG) (p:EQ) (l:List zJ) (i:Nat) (a':List yG) (p':EQ):Prop where
 al:a'.length=n
 done:∀x,x<n→x<i→a'.getD x ad=((a.getD x ad).1+zQ (gB x) l,(a.getD x ad).2.1,jI (a.getD x ad).2.2 (zQ (gR x) l))
 rest:∀x,x<n→¬x<i→a'.getD x ad=a.getD x ad
 pl:p'.length=n
 pr:∀x,x<n→(p'.getD x []).length=n
 cell:∀x,x<n→∀y,y<n→cell p' x y=if x<i then cell p x y+zQ (gS x y) l-zQ (gS y x) l else cell p x y
structure ZC (n:Nat) (a:List yG) (p:EQ) (l:List zJ) (i j:Nat) (a':List yG) (p':EQ):Prop where
 al:a'.length=n
 done:∀x,x<n→x<i→a'.getD x ad=((a.getD x ad).1+zQ (gB x) l,(a.getD x ad).2.1,jI (a.getD x ad).2.2 (zQ (gR x) l))
 here:a'.getD i ad=((a.getD i ad).1-qJ (fun j=>zQ (gS i j) l-zQ (gS j i) l) j,(a.getD i ad).2.1,jI (a.getD i ad).2.2 (zQ (gR i) l))
 rest:∀x,x<n→i<x→a'.getD x ad=a.getD x ad
 pl:p'.length=n
 pr:∀x,x<n→(p'.getD x []).length=n
 cell:∀x,x<n→∀y,y<n→cell p' x y=if x<i∨(x=i∧y<j) then cell p x y+zQ (gS x y) l-zQ (gS y x) l else cell p x y
theorem vPb {k n a p l}(hk:n<k)(bK:l.length<k)(hn:n≤9999)(hx:Qx n a p)(hl:wH n l){i}(hi:i<n)(b0:List yG) b1 b2 b3 b m
  {a0 p0} (h0:ZC n a p l i 0 a0 p0):∃a' p',FF k k l i 0 b0 b1 b2 b3 a0 b m p0=some (l,(i:Int),b0,b1,b2,b3,a',b,m,p')∧ZC n a p l i n a' p':=by
 obtain ⟨s, h1, h2⟩ := vA (L := fun c j (s : List yG × EQ) => FF k c l i j b0 b1 b2 b3 s.1 b m s.2) (N := n) (fun s => (l, (i : Int), b0, b1, b2, b3, s.1, b, m, s.2)) (fun j s => ZC n a p l i j s.1 s.2) (fun c s hs=>by
   show FG k _ l i n b0 b1 b2 b3 s.1 b m s.2=_;unfold FG;simp only [qZ, hs.al, ab (Nat.lt_irrefl _), ak]) (fun c j s hj hs=>by
   refine⟨(s.1.set i (zA ((s.1.getD i ad).1-(zQ (gS i j) l-zQ (gS j i) l)),(s.1.getD i ad).2),s.2.set i ((s.2.getD i []).set j (zA ((s.2.getD i []).getD j 0+(zQ (gS i j) l-zQ (gS j i) l))))),?_,?_⟩
   ·show FG k _ l i j b0 b1 b2 b3 s.1 b m s.2=_;unfold FG;simp only[qB,qD hj (by grind),qZ,ao,hs.al,hs.pl,hs.pr i hi,aa hi,aa hj,ag,ZA bK hl,ae]
   ·have hb:=hx.bal i hi;have hg:∀j,-70368744177664≤zQ (gS i j) l-zQ (gS j i) l∧zQ (gS i j) l-zQ (gS j i) l≤70368744177664:=fun j=>by
     have h1:=uM hl i j;have h2:=uM hl j i;omega
    have Eu:=xQ hg j;have ER:=hg j;have qt:=hx.net i hi j hj;have hc:=hs.cell i hi j hj;rw[if_neg (by omega)] at hc;refine⟨by simp only[List.length_set];exact hs.al,fun x ko yd=>?_,?_,fun x ko yd=>?_,by simp only[List.length_set];exact hs.pl,Qy hs.pl hs.pr hi,fun x ko y Ls=>?_⟩
    ·rw[fF,if_neg (by grind)];exact hs.done x ko yd
    ·rw[fF,if_pos ⟨rfl,by rw[hs.al];exact hi⟩,hs.here];dsimp only;rw[zP];show(_,_)=((a.getD i ad).1-(qJ _ j+_),_);grind
    ·rw[fF,if_neg (by grind)];exact hs.rest x ko yd
    ·have e:(s.2.getD i []).getD j 0=cell p i j:=hc;rw[Zw (by rw[hs.pl];exact hi) (by rw[hs.pr i hi];exact hj),e];by_cases QD:x=i∧y=j
     ·obtain⟨rfl,rfl⟩:=QD;rw[if_pos ⟨rfl,rfl⟩,if_pos (by omega),zP];omega
     ·rw[if_neg QD,hs.cell x ko y Ls];omega) (s:=(a0,p0)) hk h0
 grind
theorem ZD {k n a b m p l}(hk:n<k)(bK:l.length<k)(hn:n≤9999)(hx:Qx n a p)(hl:wH n l)(b0:List yG) b1 b2 b3:
  ∃a' p',FH k k l 0 b0 b1 b2 b3 a b m p=some (b0,b1,b2,b3,a',b,m,p')∧uN n a p l a' p':=by
 obtain ⟨s, h1, h2⟩ := vA (L := fun c i (s : List yG × EQ) => FH k c l i b0 b1 b2 b3 s.1 b m s.2) (N := n) (fun s => (b0, b1, b2, b3, s.1, b, m, s.2)) (fun i s => ZB n a p l i s.1 s.2) (fun c s hs=>by
   show FI k _ l n b0 b1 b2 b3 s.1 b m s.2=_;unfold FI;simp only [qZ, hs.al, ab (Nat.lt_irrefl _), ak]) (fun c i s hi hs=>by
   have hai:=hs.rest i hi (by simp);have hr:=hx.res i hi;have hsp:=Ca hl i;obtain⟨a',p',h1,h2⟩:=vPb (a0:=s.1.set i ((s.1.getD i ad).1,((s.1.getD i ad).2.1,jI (s.1.getD i ad).2.2 (zQ (gR i) l)))) (p0:=s.2) hk bK hn hx hl hi b0 b1 b2 b3 b m ⟨by rw[List.length_set];exact hs.al,fun x ko yd=>by
     rw[fF,if_neg (by grind)];exact hs.done x ko yd,by
     rw[fF,if_pos ⟨rfl,by rw[hs.al];exact hi⟩,hai];show _=((a.getD i ad).1-0,_,_);simp,fun x ko yd=>by
     rw[fF,if_neg (by grind)];exact hs.rest x ko (by omega),hs.pl,hs.pr,fun x ko y Ls=>by
     rw[hs.cell x ko y Ls];omega⟩
   refine⟨(a',p'),?_,?_⟩
   ·show FI k _ l i b0 b1 b2 b3 s.1 b m s.2=_;unfold FI;have hK:=yUl k (s.1.getD i ad).1 (s.1.getD i ad).2.1 (s.1.getD i ad).2.2 (zQ (gR i) l) (by grind) (by grind) hsp.1;simp only[qB,qZ,ao,hs.al,aa hi,ag,vPp bK hl,ae];rw[hK];simp only[ae];rw[h1];simp only[ae,qD hi (by grind)]
   ·refine⟨h2.al,fun x ko yd=>?_,fun x ko yd=>h2.rest x ko (by omega),h2.pl,h2.pr,fun x ko y Ls=>?_⟩
    ·by_cases h:x<i
     ·exact h2.done x ko h
     ·have:x=i:=by omega
      subst this;rw[h2.here,vDp hl.1 x ko];simp
    ·rw[h2.cell x ko y Ls];omega) (s:=(a,p)) hk ⟨hx.al,by simp,by simp,hx.pl,hx.pr,by simp⟩
 exact⟨s.1,s.2,h1,h2.al,fun i hi=>h2.done i hi hi,h2.pl,h2.pr,fun i hi j hj=>by rw[h2.cell i hi j hj,if_pos hi]⟩
def sY (a:List yG)(b:EQ)(m:AC)(p:EQ)(l:List zJ)(r:List yG×EQ×AC×EQ×Int):Prop:=
 (wH a.length l→∃a' p',uN a.length a p l a' p'∧r=(bif kY a' b m p' then(a',b,m,p',0) else(a,b,m,p,8)))∧(¬wH a.length l→r=(a,b,m,p,1))
theorem QE {k}(hk:100<k){a b m p}{l:List zJ}(h:jA a b m p)(hl:l.length≤80):∃r,qu k a b m p l=some r∧sY a b m p l r:=by
 unfold qu sY;have e:decide (((l.length:Nat):Int)>64)=decide (¬l.length≤64):=by
  grind
 rw[e];by_cases bU:l.length≤64
 case neg=>
  rw[aa bU];exact⟨_,rfl,fun e=>absurd e.2 bU,by simp⟩
 rw[ab,Zn (by omega) (by omega)];cases hm:om a.length l with
 |false=>
  refine⟨_,rfl,fun e=>?_,by simp⟩;rw[B9.2 e.1] at hm;cases hm
 |true=>
  have aU:wH a.length l:=⟨B9.1 hm,bU⟩;simp only[Le (show 10<k by omega) h.toSized,ae];obtain⟨a',p',h1,h2⟩:=Zy (b:=b) (m:=m) (show l.length<k by omega) h.nums aU a b m p;rw[h1];simp only[ae,vIp (show 10<k by omega)];cases hB:kY a' b m p' with
  |true=>exact⟨_,rfl,by grind,by grind⟩
  |false=>exact⟨_,rfl,by grind,by grind⟩
theorem vSg {k}(hk:100<k){a b m p}{l:List zJ}(h:jA a b m p)(hl:l.length≤80):∃r,Cb k a b m p l=some r∧sY a b m p l r:=by
 unfold Cb sY;rw[yH0 (by omega) (by omega)];cases hm:om a.length l with
 |false=>
  refine⟨_,rfl,fun e=>?_,by simp⟩;rw[B9.2 e.1] at hm;cases hm
 |true=>
  by_cases bU:l.length≤64
  case neg=>
   rw[ab bU];exact⟨_,rfl,fun e=>absurd e.2 bU,by simp⟩
  have aU:wH a.length l:=⟨B9.1 hm,bU⟩;have h6:=h.n6;rw[aa bU];simp only[Ld (show 10<k by omega) h.toSized,ae];obtain⟨a',p',h1,h2⟩:=ZD (b:=b) (m:=m) (show a.length<k by omega) (by grind) (by omega) h.nums aU a b m p;rw[h1];simp only[ae,yS8 (show 10<k by omega)];cases hB:kY a' b m p' with
  |true=>exact⟨_,rfl,by grind,by grind⟩
  |false=>exact⟨_,rfl,by grind,by grind⟩
theorem sY.same {a b m p l r r'}(h:sY a b m p l r)(h':sY a b m p l r'):r=r':=by
 by_cases c:wH a.length l
 ·obtain⟨a1,p1,x,rfl⟩:=h.1 c;obtain⟨a2,p2,y,rfl⟩:=h'.1 c;obtain⟨rfl,rfl⟩:=x.same y;rfl
 ·rw[h.2 c,h'.2 c]
theorem vOq {k n i p}(hk:n<k)(hn:n≤100)(hi:i<n)(hp:p.length=n)(hr:(p.getD i []).length=n)(hb:∀j,-72057594037927936≤cell p i j∧cell p i j≤72057594037927936)(a:List yG) b m:
  QF k a b m p i=some (qJ (cell p i) n):=by
 obtain ⟨s, h1, h2⟩ := vA (L := fun c j (s : Int) => FJ k c i s j a b m p) (N := n) (fun s => s) (fun j s => s = qJ (cell p i) j) (fun c s hs=>by
   show FK k _ i s n a b m p=_;unfold FK;simp only [qB, qZ, ao, hp, hr, aa hi, ab (Nat.lt_irrefl _), ak, ag]) (fun c j s hj hs=>by
   refine⟨qJ (cell p i) (j+1),?_,rfl⟩;show FK k _ i s j a b m p=_;have h1:=xQ hb j;have h2:=hb j;unfold FK;simp only[qB,qD hj (by grind),qZ,ao,hp,hr,aa hi,aa hj];show FJ k c i (zA (s+cell p i j)) _ a b m p=_;rw[hs,zP];rfl) (s:=0) hk rfl
 unfold QF;simp_all
theorem QH {a b m p}(hb:jA a b m p){i}(hi:i<a.length) j:-72057594037927936≤cell p i j∧cell p i j≤72057594037927936:=by
 by_cases hj:j<a.length
 ·have:=hb.net i hi j hj;simp[iE] at this;omega
 ·have:cell p i j=0:=by
   unfold cell;rw[bT,List.getElem?_eq_none]
   ·rfl
   ·rw[hb.pr i hi];omega
  omega
theorem Lt {S X:Type}{L:Nat→Int→S→Option X}{N} ok (e:S→X) b (inv:Nat→S→Prop)(bL:∀n s,inv N s→L (n+1) (N:Int) s=some (e s))
  (aI:∀n i s,i<N→inv i s→(ok i=true→∃s',L (n+1) (i:Int) s=L n ((i+1:Nat):Int) s'∧inv (i+1) s')∧(ok i=false→L (n+1) (i:Int) s=some b)):
  ∀c i n s,i+c=N→c<n→inv i s→(zY ok c i=true∧∃s',L n (i:Int) s=some (e s')∧inv N s')∨(zY ok c i=false∧L n (i:Int) s=some b)
 |0,i,n,s,h,hn,hs=>by
  obtain⟨n,rfl⟩:=aoa n;have:i=N:=by omega
  subst this;exact .inl ⟨rfl,s,bL n s hs,hs⟩
 |c+1,i,n,s,h,hn,hs=>by
  obtain⟨n,rfl⟩:=aoa n;obtain⟨h1,h2⟩:=aI n i s (by omega) hs;unfold zY;cases ho:ok i with
  |true=>
   obtain⟨s',h3,h4⟩:=h1 ho;rw[h3];exact Lt ok e b inv bL aI c (i+1) n s' (by omega) (by omega) h4
  |false=>simp_all
def dS (l:List zJ)(i j:Nat):Int:=zQ (gS i j) l-zQ (gS j i) l
def uO (b p:EQ)(l:List zJ)(i j:Nat):Bool:= !(decide (zQ (gS i j) l>0)&&(!decide (cell b i j= -1)&&decide (cell p i j+dS l i j>cell b i j)))
def gZ (a:List yG)(b:EQ)(m:AC)(p:EQ)(l:List zJ)(i:Nat):Bool:=
 !decide (zQ (gN i) l + zQ (gR i) l = 0) && (!zY (uO b p l i) a.length 0 || (decide ((a.getD i ad).1+(a.getD i ad).2.1+zQ (gB i) l<0)||
  ((decide (zQ (gN i) l>0)&&decide ((a.getD i ad).1+(a.getD i ad).2.1+zQ (gB i) l<jI (a.getD i ad).2.2 (zQ (gR i) l)))||
   (!decide (m.getD i 0= -1)&&decide (qJ (cell p i) a.length-zQ (gB i) l>m.getD i 0)))))
theorem FL {n l}(hl:wH n l) i j:-70368744177664≤dS l i j∧dS l i j≤70368744177664:=by
 have h1:=uM hl i j;have h2:=uM hl j i;unfold dS;omega
theorem ZE {k:Nat}{a:List yG}{b:EQ}{m:AC}{p:EQ}{l:List zJ}(hk:100<k)(hb:jA a b m p)(hl:wH a.length l){i:Nat}(hi:i<a.length)(x y n0 dQ:Int)
  (Es:-6917529027641081856≤n0∧n0≤6917529027641081856) (qt:-576460752303423488≤dQ∧dQ≤576460752303423488):
  sZ k k l i x y n0 dQ 0 a b m p=some (bif zY (uO b p l i) a.length 0 then .inl ((i:Int),x,y,n0-qJ (dS l i) a.length,dQ+qJ (dS l i) a.length,a,b,m,p) else .inr true):=by
 have h6:=hb.n6;have bK:l.length<k:=by have:=hl.2;omega
 have := Lt (L := fun c j (s : Int × Int) => sZ k c l i x y s.1 s.2 j a b m p) (N := a.length) (uO b p l i) (fun s => .inl ((i : Int), x, y, s.1, s.2, a, b, m, p)) (.inr true) (fun j s => s = (n0 - qJ (dS l i) j, dQ + qJ (dS l i) j)) (fun c s hs=>by
   show FM k _ l i x y s.1 s.2 a.length a b m p=_;unfold FM;simp only [qZ, ab (Nat.lt_irrefl _), ak]) (fun c j s hj hs=>by
   have Eu:=xQ (fun j=>FL hl i j) j;have ER:=FL hl i j;have hj1:(j:Int)*70368744177664≤6*70368744177664:=by omega
   have qt:=hb.nums.net i hi j hj;have e1:sZ k (c+1) l i x y s.1 s.2 j a b m p=bif uO b p l i j then sZ k c l i x y (n0-qJ (dS l i) (j+1)) (dQ+qJ (dS l i) (j+1)) ((j+1:Nat):Int) a b m p else some (.inr true):=by
    show FM k _ l i x y s.1 s.2 j a b m p=_;unfold FM;simp only[qB,qD hj (show a.length<9223372036854775808 by omega),qZ,ao,aa hi,aa hj,ag,Zz bK hl,ae,hb.bl,hb.br i hi,hb.pl,hb.pr i hi];have ed:zA (zQ (gS i j) l-zQ (gS j i) l)=dS l i j:=zP (by have:=ER.1;unfold dS at this;omega) (by have:=ER.2;unfold dS at this;omega);rw[ed];have e2:zA (s.1-dS l i j)=n0-qJ (dS l i) (j+1):=by
     rw[hs];show zA (n0-qJ (dS l i) j-dS l i j)=n0-(qJ (dS l i) j+dS l i j);rw[zP];omega
    have e3:zA (s.2+dS l i j)=dQ+qJ (dS l i) (j+1):=by
     rw[hs];show zA (dQ+qJ (dS l i) j+dS l i j)=dQ+(qJ (dS l i) j+dS l i j);rw[zP];omega
    rw[e2,e3];show(bif decide (zQ (gS i j) l>0) then(bif !decide (cell b i j= -1) then(bif decide (zA (cell p i j+dS l i j)>cell b i j) then _ else _) else _) else _)=_;rw[zP (x:=cell p i j+dS l i j)];unfold uO;cases decide (zQ (gS i j) l>0)<;>cases decide (cell b i j= -1)<;>cases decide (cell p i j+dS l i j>cell b i j)<;>rfl
   refine⟨fun ho=>⟨_,?_,rfl⟩,fun ho=>?_⟩
   ·rw[e1,ho];rfl
   ·rw [e1, ho]; rfl) a.length 0 k (n0, dQ) (by omega) (by omega) (by
    show(n0,dQ)=(n0-0,dQ+0);rw[Int.sub_zero,Int.add_zero])
 rcases this with⟨h1,s,h2,h3⟩|⟨h1,h2⟩
 ·have QI:sZ k k l i x y n0 dQ 0 a b m p=_:=h2;rw[QI,h1,h3];rfl
 ·have QI:sZ k k l i x y n0 dQ 0 a b m p=_:=h2;rw[QI,h1];rfl
theorem vHq {n l}(hl:∀p∈l,yR n p) i (hi:i<n):qJ (dS l i) n= -zQ (gB i) l:=vDp hl i hi
theorem yXv {k a b m p l}(hk:100<k)(hb:jA a b m p)(hl:wH a.length l){i}(hi:i<a.length):QJ k a b m p l i=some (gZ a b m p l i):=by
 have h6:=hb.n6;have bK:l.length<k:=by have:=hl.2;omega
 have hN:=yOj hl i;have hR:=Ca hl i;have hx:=hb.acct i hi;simp only[fH,aR,ba] at hx;have qw:-4611686018427387904<(a.getD i ad).1∧(a.getD i ad).1<4611686018427387904∧0≤(a.getD i ad).2.1∧(a.getD i ad).2.1≤2305843009213693952∧0≤(a.getD i ad).2.2∧(a.getD i ad).2.2≤2305843009213693952:=by grind
 have qt:=xQ (QH hb hi) a.length;unfold QJ;rw[yM0 bK hl];simp only[ae];rw[zP (x:=zQ (gN i) l+zQ (gR i) l) (by omega) (by omega)];unfold gZ;cases hz:decide (zQ (gN i) l+zQ (gR i) l=0) with
 |true=>rfl
 |false=>
  rw[qB,aa hi];simp only[ao];rw[vOq (by omega) (by omega) hi hb.pl (hb.pr i hi) (QH hb hi)];simp only[ae];rw[zP (x:=(a.getD i (0,(0,0))).1+(a.getD i (0,(0,0))).2.1) (by omega) (by omega)];rw[ZE hk hb hl hi _ _ _ _ (by omega) (by omega),vHq hl.1 i hi];cases zY (uO b p l i) a.length 0 with
  |false=>rfl
  |true=>
   have hK:=yUl k (a.getD i ad).1 (a.getD i ad).2.1 (a.getD i ad).2.2 (zQ (gR i) l) (by omega) (by omega) hR.1;simp[qB,hb.ml];grind
theorem vX1 {k:Nat}{a:List yG}{b:EQ}{m:AC}{p:EQ}{l:List zJ}(hk:100<k)(hb:jA a b m p)(hl:wH a.length l):∃r,uP k a b m p l=some r∧(r=[]↔zY (fun i=> !gZ a b m p l i) a.length 0=true):=by
 have h6:=hb.n6;obtain ⟨r, h1, h2⟩ := vA (L := fun c i (r : AC) => uQ k c l i a b m p r) (N := a.length) (fun r => r) (fun i r => (r = [] ↔ ∀ j, j < i → gZ a b m p l j = false) ∧ r.length ≤ i) (fun c r hr=>by
   show ta k _ l a.length a b m p r=_;unfold ta;simp only [qZ, ab (Nat.lt_irrefl _), ak]) (fun c i r hi hr=>by
   have aZ:zL (r.length+1) 8=true:=qF;have e:uQ k (c+1) l i a b m p r=uQ k c l ((i+1:Nat):Int) a b m p (bif gZ a b m p l i then r++[(i:Int)] else r):=by
    show ta k _ l i a b m p r=_;unfold ta;simp only[qD hi (show a.length<9223372036854775808 by omega),qZ,aa hi,ag,yXv hk hb hl hi,ae,aZ];cases gZ a b m p l i<;>rfl
   refine⟨_,e,?_⟩;cases hs:gZ a b m p l i with
   |true=>
    refine⟨⟨fun h=>?_,fun h=>?_⟩,by simp only[ag,ay,List.length_cons,List.length_nil];omega⟩
    ·simp at h
    ·rw[h i (Nat.lt_succ_self i)] at hs;cases hs
   |false=>
    refine⟨⟨fun h j hj=>?_,fun h=>?_⟩,by simp only[ak];omega⟩
    ·by_cases c:j=i
     ·subst c;exact hs
     ·exact hr.1.1 h j (by omega)
    ·exact hr.1.2 fun j hj=>h j (by omega)) (s:=[]) (show a.length<k by omega) ⟨⟨fun _ j hj=>absurd hj (Nat.not_lt_zero j),fun _=>rfl⟩,Nat.le_refl 0⟩
 unfold uP;rw[h1];refine⟨r,rfl,h2.1.trans ?_⟩;rw[wJ];exact⟨fun h j hj=>by rw[h j hj];rfl,fun h j hj=>by have:=h j hj;simpa using this⟩
def ye (a:List yG)(b:EQ)(m:AC)(p:EQ)(l:List zJ):Bool:=(om a.length l&&decide (l.length≤64))&&zY (fun i=> !gZ a b m p l i) a.length 0
theorem ZF {k a b m p}{l:List zJ}(hk:100<k)(hb:jA a b m p)(hl:l.length≤80):Lu k a b m p l=some (ye a b m p l):=by
 unfold Lu ye;rw[yH0 (by omega) (by omega)];cases hm:(om a.length l&&decide (l.length≤64)) with
 |false=>rfl
 |true=>
  simp  at hm;obtain⟨r,h1,h2⟩:=vX1 hk hb ⟨B9.1 hm.1,hm.2⟩;simp_all
theorem vR7 {k n i p}(hk:n<k)(hn:n≤100)(hi:i<n)(hp:p.length=n)(hr:(p.getD i []).length=n)(hb:∀j,-72057594037927936≤cell p i j∧cell p i j≤72057594037927936)(a:List yG) b m:
  QK k a b m p i=some (qJ (cell p i) n):=by
 obtain ⟨s, h1, h2⟩ := vA (L := fun c j (s : Int) => FN k c s (p.getD i []) n j) (N := n) (fun s => s) (fun j s => s = qJ (cell p i) j) (fun c s hs=>by
   show FO k _ s (p.getD i []) n n=_;unfold FO;simp) (fun c j s hj hs=>by
   refine⟨qJ (cell p i) (j+1),?_,rfl⟩;show FO k _ s (p.getD i []) n j=_;have h1:=xQ hb j;have h2:=hb j;unfold FO;simp only[qB,qD hj (by grind),qZ,hr,aa hj];show FN k c (zA (s+cell p i j)) _ _ _=_;rw[hs,zP];rfl) (s:=0) hk rfl
 unfold QK;simp[qB];simp_all
theorem yTy k {n:Nat}(hn:n≤6):Lv k n=some true:=by
 unfold Lv;grind
theorem vDj {α:Type}(v z:α) n i (hi:i<n):(List.replicate i v++List.replicate (n-i) z).set i v=List.replicate (i+1) v++List.replicate (n-(i+1)) z:=by
 have e:List.replicate (n-i) z=z::List.replicate (n-(i+1)) z:=by
  rw[show n-i=(n-(i+1))+1 by omega];rfl
 rw[List.set_append_right _ _ (by simp),List.length_replicate,Nat.sub_self,e];simp[List.replicate_succ']
theorem vM7 {k n}(hk:n<k)(hn:n≤6) v:Cc k n v=some (List.replicate n v):=by
 unfold Cc;rw[yTy k hn];obtain ⟨s, h1, h2⟩ := vA (L := fun c i (s : AC) => Lw k c v n i s) (N := n) (fun s => s) (fun i s => s = List.replicate i v ++ List.replicate (n - i) 0) (fun c s hs=>by
   show FP k _ v n n s=_;unfold FP;simp) (fun c i s hi hs=>by
   refine⟨_,?_,rfl⟩;show FP k _ v n i s=_;have hl:s.length=n:=by grind
   unfold FP;simp[qB,qD hi (by grind),aa hi,hl];rw[hs,vDj v 0 n i hi]) (s:=List.replicate n 0) hk (by simp)
 grind
theorem ZG {k n}(hk:n<k)(hn:n≤6) v:FQ k n v=some (List.replicate n (List.replicate n v)):=by
 unfold FQ;rw[yTy k hn];obtain ⟨s, h1, h2⟩ := vA (L := fun c i (s : EQ) => Lx k c n v n i s) (N := n) (fun s => s) (fun i s => s = List.replicate i (List.replicate n v) ++ List.replicate (n - i) []) (fun c s hs=>by
   show FR k _ n v n n s=_;unfold FR;simp) (fun c i s hi hs=>by
   refine⟨_,?_,rfl⟩;show FR k _ n v n i s=_;have hl:s.length=n:=by grind
   unfold FR;simp[qB,qD hi (by grind),aa hi,hl,vM7 hk hn];rw[hs,vDj (List.replicate n v) [] n i hi]) (s:=List.replicate n []) hk (by simp)
 grind
def uR (a:List yG)(b:EQ)(m:AC)(p:EQ)(l:List zJ):AC:=((List.range a.length).filter fun i=>gZ a b m p l i).map fun(i:Nat)=>(i:Int)
structure QL (n:Nat) (l:List zJ) (r2 r3:AC) (m4:EQ):Prop where
 l2:r2.length=n
 l3:r3.length=n
 l4:m4.length=n
 r4:∀i,i<n→(m4.getD i []).length=n
 more:∀i,i<n→r2.getD i 0=zQ (gB i) l
 spent:∀i,i<n→r3.getD i 0=zQ (gR i) l
 sent:∀i,i<n→∀j,j<n→cell m4 i j=dS l i j
def Ly (p:zJ)(r:AC):AC:=
 let y0:=r.set p.2.1.toNat (zA (r.getD p.2.1.toNat 0-p.2.2.2.1))
 y0.set p.2.2.1.toNat (zA (y0.getD p.2.2.1.toNat 0+p.2.2.2.1))
def LA (p:zJ)(r:AC):AC:=bif !decide (p.2.2.2.2.1=3) then r.set p.2.1.toNat (zA (r.getD p.2.1.toNat 0+p.2.2.2.1)) else r
theorem vRx {n p}(h:yR n p){r}(hr:r.length=n){i}(hi:i<n)(hb:∀i,i<n→-4611826755915743232<r.getD i 0∧r.getD i 0<4611826755915743232):(Ly p r).getD i 0=r.getD i 0+gB i p:=by
 obtain⟨f0,f1,t0,t1,ne,a1,a2,c1,c3⟩:=h;obtain⟨f,hf⟩:∃f:Nat,p.2.1=f:=⟨p.2.1.toNat,by omega⟩;obtain⟨t,ht⟩:∃t:Nat,p.2.2.1=t:=⟨p.2.2.1.toNat,by omega⟩;have Qz:f≠t:=by omega
 have iF:f<n:=by omega
 have gY:t<n:=by omega
 unfold Ly gB;simp only[hf,ht,ao];have b1:=hb f iF;have b2:=hb t gY;have key:∀x,(r.set f (zA (r.getD f 0-p.2.2.2.1))).getD x 0=if f=x then zA (r.getD f 0-p.2.2.2.1) else r.getD x 0:=by grind
 rw[fF,List.length_set,key t,if_neg Qz,key i];by_cases h1:t=i
 ·subst h1;rw[if_pos (by grind),if_pos rfl,if_neg (by omega),zP];omega
 ·rw[if_neg (by grind),if_neg (c:=((t:Int)=i)) (by omega)];by_cases h2:f=i
  ·subst h2;rw[if_pos rfl,if_pos rfl,zP];omega
  omega
theorem ZH {n p}(h:yR n p){r}(hr:r.length=n){i}(hi:i<n)(hb:∀i,i<n→-4611826755915743232<r.getD i 0∧r.getD i 0<4611826755915743232):(LA p r).getD i 0=r.getD i 0+gR i p:=by
 obtain⟨f0,f1,t0,t1,ne,a1,a2,c1,c3⟩:=h;obtain⟨f,hf⟩:∃f:Nat,p.2.1=f:=⟨p.2.1.toNat,by omega⟩;have iF:f<n:=by omega
 have b1:=hb f iF;unfold LA gR;simp only[hf,ao];by_cases hc:p.2.2.2.2.1=3
 ·simp_all
 ·rw[ab hc];simp only[bO,ag];rw[fF];by_cases h2:f=i
  ·subst h2;rw[if_pos (by grind),if_pos (by grind),zP]
  omega
theorem ZI l p i j:dS (l++[p]) i j=dS l i j+gS i j p-gS j i p:=by
 unfold dS;rw[kU,kU];dsimp only[zQ];omega
theorem QM {α:Type} n i (v d:α)(h:i<n):(List.replicate n v).getD i d=v:=by
 simp_all
theorem vPy {k n l}(hk:100<k)(hn:n≤6)(hl:wH n l):∃r2 r3 m4,QO k n l=some (r2,r3,m4)∧QL n l r2 r3 m4:=by
 have oq:=hl.2;have := vA (L := fun c i (s : AC × AC × EQ) => LB k c l l.length i s.1 s.2.1 s.2.2) (N := l.length) (fun s => s) (fun i s => QL n (l.take i) s.1 s.2.1 s.2.2) (fun c s hs=>by
   show FT k _ l l.length l.length s.1 s.2.1 s.2.2=_;unfold FT;simp) (fun c i s hi hs=>by
   have ca:yR n (l.getD i pd):=hl.1 _ (fD hi);refine⟨(Ly (l.getD i pd) s.1,LA (l.getD i pd) s.2.1,xZ (l.getD i pd) s.2.2),?_,?_⟩
   ·show FT k _ l l.length i s.1 s.2.1 s.2.2=_;unfold FT Ly LA xZ;simp only[qB,qD hi (by grind),qZ,ao,aa hi,ag];obtain⟨f0,f1,t0,t1,ne,a1,a2,c1,c3⟩:=ca;obtain⟨f,hf⟩:∃f:Nat,(l.getD i pd).2.1=f:=⟨(l.getD i pd).2.1.toNat,by omega⟩;obtain⟨t,ht⟩:∃t:Nat,(l.getD i pd).2.2.1=t:=⟨(l.getD i pd).2.2.1.toNat,by omega⟩;have iF:f<n:=by omega
    have gY:t<n:=by omega
    have r1:=Qy (x:=zA ((s.2.2.getD f []).getD t 0+(l.getD i pd).2.2.2.1)) (t:=t) hs.l4 hs.r4 iF;simp only[hf,ht,ao,qB,hs.l2,hs.l3,hs.l4,List.length_set,hs.r4 f iF,r1 t gY,aa iF,aa gY,ag];grind
   ·have aU:=hl.take i;have hp := vKy ca hs.l4 hs.r4 (fun i' bI j' nf=>by
     rw[hs.sent i' bI j' nf];have:=FL aU i' j';omega)
    have hbM:∀i',i'<n→-4611826755915743232<s.1.getD i' 0∧s.1.getD i' 0<4611826755915743232:=fun i' bI=>by
     rw[hs.more i' bI];have:=Zv aU i';omega
    have hbS:∀i',i'<n→-4611826755915743232<s.2.1.getD i' 0∧s.2.1.getD i' 0<4611826755915743232:=fun i' bI=>by
     rw[hs.spent i' bI];have:=Ca aU i';omega
    refine⟨by unfold Ly;simp[hs.l2],by unfold LA;cases decide ((l.getD i pd).2.2.2.2.1=3)<;>simp[hs.l3],hp.1,hp.2.1,fun i' bI=>?_,fun i' bI=>?_,fun i' bI j' nf=>?_⟩
    ·rw[vRx ca hs.l2 bI hbM,hs.more i' bI,←fE l i pd hi,kU];dsimp only[zQ];omega
    ·rw[ZH ca hs.l3 bI hbS,hs.spent i' bI,←fE l i pd hi,kU];dsimp only[zQ];omega
    ·rw[hp.2.2 i' bI j' nf,hs.sent i' bI j' nf,←fE l i pd hi,ZI]) (n:=k) (s:=(List.replicate n 0,List.replicate n 0,List.replicate n (List.replicate n 0))) (by omega) ⟨by simp,by simp,by simp,by grind,fun i hi=>by rw[QM n i _ _ hi];rfl,fun i hi=>by rw[QM n i _ _ hi];rfl,fun i hi j hj=>by
    unfold cell;rw[QM n i _ _ hi,QM n j _ _ hj];rfl⟩
 obtain⟨s,h1,h2⟩:=this;rw[List.take_of_length_le (Nat.le_refl _)] at h2;refine⟨s.1,s.2.1,s.2.2,?_,h2⟩;unfold QO;rw[vM7 (by omega) hn,ZG (by omega) hn];simp_all
theorem ZJ {k}{l:List zJ}(hk:l.length<k)(hl:l.length<9223372036854775808) i:QP k l i=some (!zY (fun x=> !decide ((l.getD x pd).2.1=i)) l.length 0):=by
 obtain ⟨x, h1, h2⟩ := pt (L := fun c x => LC k c l l.length x i) (N := l.length) (fun x => decide ((l.getD x pd).2.1 = i)) (fun c=>by
   show FU k _ l l.length l.length i=_;unfold FU;simp) (fun c x hx=>by
   show FU k _ l l.length x i=_;unfold FU ZK;simp[qB,qD hx hl,aa hx]) hk
 unfold QP ZL;grind
theorem yRt {n:Nat}{l:List zJ}(hl:∀p∈l,yR n p)(i:Nat):zY (fun x=> !decide ((l.getD x pd).2.1=i)) l.length 0=decide (zQ (gN i) l+zQ (gR i) l=0):=by
 have hN:=xP (g:=gN i) (l:=l) fun p hp=>(QB (hl p hp) i).1
 have hR:=xP (g:=gR i) (l:=l) fun p hp=>(Qw (hl p hp) i).1
 have e:zQ (gN i) l+zQ (gR i) l=zQ (fun p:zJ=>if p.2.1=(i:Int) then p.2.2.2.1 else 0) l:=by
  rw[←yN3];refine P3 fun p hp=>?_
  unfold gN gR;omega
 rw[e];have h:∀(l:List zJ),(∀p∈l,yR n p)→((∀p∈l,¬p.2.1=i)↔zQ (fun p:zJ=>if p.2.1=(i:Int) then p.2.2.2.1 else 0) l=0):=by
  intro l
  induction l with
  |nil=>intro _;simp[zQ]
  |cons q l ih=>
   intro hm;have ih:=ih (by grind);have hq:=hm q (by simp);have h0:0≤zQ (fun p:zJ=>if p.2.1=i then p.2.2.2.1 else 0) l:=xP fun p hp=>by
    have:=(hm p (by grind)).a1;omega
   unfold zQ;by_cases c:q.2.1=i
   ·rw[if_pos c];have:=hq.a1;grind
   simp_all
 have bn:(∀p∈l,¬p.2.1=i)↔zY (fun x=> !decide ((l.getD x pd).2.1=i)) l.length 0=true:=by
  rw[wJ];constructor
  ·intro h j hj
   simpa using h _ (fD hj)
  ·intro h p hp;obtain⟨j,hj,rfl⟩:=List.getElem_of_mem hp;have:=h j hj
   simpa[List.getD,hj] using this
 simp_all
def FV (n LD:Int):Bool:= !decide (LD= -1)&&decide (n>LD)
theorem vIf k n LD:FW k n LD=some (FV n LD):=by
 unfold FW FV;grind
theorem vRf k b c r s (h:-9223372036854775808≤r-s)(h':r<9223372036854775808)(hs:0≤s):ya k b c r s=some (jI r s):=by
 unfold ya jI yI;rw[zP h (by omega),ak];grind
def Cd (b p:EQ)(l:List zJ)(i:Nat)(short:Bool)(q:zJ):Bool:=
 decide (q.2.1=i)&&((decide (q.2.2.2.2.1=3)&&short)||FV (cell p i q.2.2.1.toNat+dS l i q.2.2.1.toNat) (cell b i q.2.2.1.toNat))
theorem vRp {k a b m p l}(hk:100<k)(hb:jA a b m p)(hl:wH a.length l){r2 r3 m4}(hm:QL a.length l r2 r3 m4){i}(hi:i<a.length) bal cr res n0 (kP:0≤res∧res≤2305843009213693952):
  QQ k l i bal cr res r2 r3 m4 n0 a b m p=some (!zY (fun x=> !Cd b p l i (decide (n0<jI res (zQ (gR i) l))) (l.getD x pd)) l.length 0):=by
 have oq:=hl.2;have hR:=Ca hl i;obtain ⟨x, h1, h2⟩ := pt (L := fun c x => LF k c l l.length x i bal cr res r2 r3 m4 n0 a b m p) (N := l.length) (fun x => Cd b p l i (decide (n0 < jI res (zQ (gR i) l))) (l.getD x pd)) (fun c=>by
   show FX k _ l l.length l.length i bal cr res r2 r3 m4 n0 a b m p=_;unfold FX;simp) (fun c x hx=>by
   show FX k _ l l.length x i bal cr res r2 r3 m4 n0 a b m p=_;have ca:yR a.length (l.getD x pd):=hl.1 _ (by grind);unfold FX;simp only[qB,qD hx (by grind),qZ,ao,aa hx];generalize l.getD x (0,(0,(0,(0,(0,(0,0))))))=q at ca⊢;obtain⟨id,f,t,am,cl,st,ti⟩:=q;obtain⟨f0,f1,t0,t1,ne,a1,a2,c1,c3⟩:=ca;dsimp only at f0 f1 t0 t1 ne a1 a2 c1 c3⊢;obtain⟨t,rfl⟩:∃y:Nat,t=y:=⟨t.toNat,by omega⟩;have gY:t<a.length:=by omega
   unfold ZM Cd;cases hf:decide (f=(i:Int)) with
   |false=>simp
   |true=>
    have e1:(r3.getD i 0)=zQ (gR i) l:=hm.spent i hi;have e2:(m4.getD i []).getD t 0=dS l i t:=hm.sent i hi t gY;have qt:=hb.nums.net i hi t gY;have hd:=FL hl i t;have e3:zA ((p.getD i []).getD t 0+dS l i t)=cell p i t+dS l i t:=zP (by show _≤cell p i t+dS l i t;omega) (by show cell p i t+dS l i t<_;omega);simp only[qB,hm.l3,hm.l4,hm.r4 i hi,hb.pl,hb.pr i hi,hb.bl,hb.br i hi,aa hi,aa gY,ao,e1,e2,e3,vRf k bal cr res (zQ (gR i) l) (by omega) (by omega) hR.1,ae,vIf];cases decide (cl=3)<;>cases decide (n0<jI res (zQ (gR i) l))<;>rfl) (n:=k) (by omega)
 unfold QQ ZN;grind
theorem ZO {α g}:∀{l:List α},(∀p∈l,0≤g p)→(0<zQ g l↔∃p∈l,0<g p)
 |[],_=>by simp[zQ]
 |q::l,h=>by
  have ih:=ZO (g:=g) (l:=l) (by grind);have h0:=xP (g:=g) (l:=l) (by grind);unfold zQ;grind
theorem QR {N p}:zY p N 0=false↔∃j,j<N∧p j=false:=by
 constructor
 ·apply Classical.byContradiction;intro hn;have:zY p N 0=true:=wJ.2 (by grind);simp_all
 ·rintro⟨j,hj,hp⟩
  cases h:zY p N 0 with
  |false=>rfl
  |true=>rw[wJ.1 h j hj] at hp;cases hp
theorem vO6 {a:List yG}{b p l}(hl:wH a.length l){i}(hi:i<a.length) short:
  (!zY (fun x=> !Cd b p l i short (l.getD x pd)) l.length 0)=(!zY (uO b p l i) a.length 0||(decide (zQ (gN i) l>0)&&short)):=by
 have hN:=ZO (g:=gN i) (l:=l) fun p hp=>(QB (hl.1 p hp) i).1
 have hS:=fun j=>ZO (g:=gS i j) (l:=l) fun p hp=>(Zu (hl.1 p hp) i j).1
 rw[Bool.eq_iff_iff];simp only[Bool.not_eq_true',Bool.or_eq_true,aR,ba];rw[QR,QR];constructor
 ·rintro⟨x,hx,hb⟩
  have ca:=hl.1 _ (fD (d:=pd) hx);have dp:=fD (d:=pd) hx;generalize l.getD x pd=q at hb ca dp;simp only[Cd,Bool.not_eq_false',aR,Bool.or_eq_true,ba] at hb;obtain⟨hf,hb⟩:=hb;rcases hb with⟨hc,hs⟩|ho
  ·refine .inr ⟨hN.2 ⟨q,dp,?_⟩,hs⟩;unfold gN;rw[if_pos ⟨hf,hc⟩];have:=ca.a1;omega
  ·have h1:=ca.t0;have h2:=ca.t1;refine .inl ⟨q.2.2.1.toNat,by omega,?_⟩;unfold uO;have mg:zQ (gS i q.2.2.1.toNat) l>0:=(hS _).2 ⟨q,dp,by
    unfold gS;rw[if_pos (by grind)];have:=ca.a1;omega⟩
   rw[aa mg];unfold FV at ho;simp_all
 ·rintro(⟨j,hj,hb⟩|⟨hp,hs⟩)
  ·simp only[uO,Bool.not_eq_false',aR,ba] at hb;obtain⟨mg,ho⟩:=hb;obtain⟨q,hq,hg⟩:=(hS j).1 mg;obtain⟨x,hx,rfl⟩:=List.getElem_of_mem hq;refine⟨x,hx,?_⟩;have e:l.getD x pd=l[x]:=by simp[List.getD,hx]
   rw[e];unfold gS at hg;by_cases c:l[x].2.1=(i:Int)∧l[x].2.2.1=(j:Int)
   ·unfold Cd FV;simp_all
   ·rw[if_neg c] at hg;omega
  ·obtain⟨q,hq,hg⟩:=hN.1 hp;obtain⟨x,hx,rfl⟩:=List.getElem_of_mem hq;refine⟨x,hx,?_⟩;have e:l.getD x pd=l[x]:=by simp[List.getD,hx]
   rw[e];unfold gN at hg;by_cases c:l[x].2.1=(i:Int)∧l[x].2.2.2.2.1=3
   ·unfold Cd;simp_all
   ·rw[if_neg c] at hg;omega
theorem ZP {k a b m p l}(hk:100<k)(hb:jA a b m p)(hl:wH a.length l){r2 r3 m4}(hm:QL a.length l r2 r3 m4){i}(hi:i<a.length)(hs:decide (zQ (gN i) l+zQ (gR i) l=0)=false):
  QS k r2 r3 m4 a b m p i l=some (gZ a b m p l i):=by
 have h6:=hb.n6;have oq:=hl.2;have hB:=Zv hl i;have hx:=hb.acct i hi;simp only[fH,aR,ba] at hx;have qw:-4611686018427387904<(a.getD i ad).1∧(a.getD i ad).1<4611686018427387904∧0≤(a.getD i ad).2.1∧(a.getD i ad).2.1≤2305843009213693952∧0≤(a.getD i ad).2.2∧(a.getD i ad).2.2≤2305843009213693952:=by grind
 have qt:=xQ (QH hb hi) a.length;have e1:r2.getD i 0=zQ (gB i) l:=hm.more i hi;unfold QS;simp only[qB,aa hi,ag,ao,hm.l2,hm.l4,e1,hm.r4 i hi];rw[vR7 (by omega) (by omega) hi hb.pl (hb.pr i hi) (QH hb hi)];rw[zP (x:=(a.getD i ad).1+(a.getD i ad).2.1) (by omega) (by omega),zP (x:=(a.getD i ad).1+(a.getD i ad).2.1+zQ (gB i) l) (by omega) (by omega)];unfold gZ;rw[hs];cases hn:decide ((a.getD i ad).1+(a.getD i ad).2.1+zQ (gB i) l<0) with
 |true=>simp
 |false=>
  obtain ⟨s, q1, q2⟩ := vA (L := fun c j (s : Int) => Ce k c l s (m4.getD i []) a.length j r2 r3 m4 a b m p i (a.getD i ad).1 (a.getD i ad).2.1 (a.getD i ad).2.2 ((a.getD i ad).1 + (a.getD i ad).2.1 + zQ (gB i) l)) (N := a.length) (fun s => (l, s, r2, r3, m4, a, b, m, p, (i : Int), (a.getD i ad).1, (a.getD i ad).2.1, (a.getD i ad).2.2, (a.getD i ad).1 + (a.getD i ad).2.1 + zQ (gB i) l)) (fun j s => s = qJ (cell p i) a.length + qJ (dS l i) j) (fun c s hs=>by
    show FY k _ l s (m4.getD i []) a.length a.length r2 r3 m4 a b m p i (a.getD i ad).1 (a.getD i ad).2.1 (a.getD i ad).2.2 ((a.getD i ad).1+(a.getD i ad).2.1+zQ (gB i) l)=_;unfold FY;simp) (fun c j s hj hs=>by
    refine⟨qJ (cell p i) a.length+qJ (dS l i) (j+1),?_,rfl⟩;show FY k _ l s (m4.getD i []) a.length j r2 r3 m4 a b m p i (a.getD i ad).1 (a.getD i ad).2.1 (a.getD i ad).2.2 ((a.getD i ad).1+(a.getD i ad).2.1+zQ (gB i) l)=_;have e2:(m4.getD i []).getD j 0=dS l i j:=hm.sent i hi j hj;have Eu:=xQ (fun j=>FL hl i j) j;have ER:=FL hl i j;unfold FY;simp only[qB,qD hj (by grind),qZ,ao,hm.r4 i hi,aa hj,ag,e2];rw[hs,zP (x:=qJ (cell p i) a.length+qJ (dS l i) j+dS l i j) (by omega) (by omega),Int.add_assoc];rfl) (n:=k) (s:=qJ (cell p i) a.length) (by omega) (by show _=_+0;omega)
  have q1':Ce k k l (qJ (cell p i) a.length) (m4.getD i []) a.length 0 r2 r3 m4 a b m p i (a.getD i ad).1 (a.getD i ad).2.1 (a.getD i ad).2.2 ((a.getD i ad).1+(a.getD i ad).2.1+zQ (gB i) l)=_:=q1;simp only[ak,ae];rw[show Ce k k l (qJ (cell p i) a.length) (m4.getD i []) a.length 0 r2 r3 m4 a b m p i (a.getD i (0,(0,0))).1 (a.getD i (0,(0,0))).2.1 (a.getD i (0,(0,0))).2.2 ((a.getD i ad).1+(a.getD i ad).2.1+zQ (gB i) l)=_ from q1'];simp only[ae,qB,hb.ml,aa hi,ag,ao,vIf];rw[vRp hk hb hl hm hi _ _ _ _ (by grind),vO6 hl hi,q2,vHq hl.1 i hi];have en:qJ (cell p i) a.length+-zQ (gB i) l=qJ (cell p i) a.length-zQ (gB i) l:=by omega
  rw[en];unfold FV;grind
theorem yVf f i:((List.range (i+1)).filter f).map (fun(x:Nat)=>(x:Int))=(((List.range i).filter f).map fun(x:Nat)=>(x:Int))++(bif f i then[(i:Int)] else[]):=by
 rw[List.range_succ,List.filter_append,List.map_append];grind
theorem ZQ {k a b m p l}(hk:100<k)(hb:jA a b m p)(hl:wH a.length l):Cf k a b m p l=some (uR a b m p l):=by
 have h6:=hb.n6;have oq:=hl.2;obtain⟨r2,r3,m4,g1,hm⟩:=vPy hk h6 hl;obtain ⟨r, h1, h2⟩ := vA (L := fun c i (r : AC) => FZ k c l a.length i a b m p r2 r3 m4 r) (N := a.length) (fun r => r) (fun i r => r = ((List.range i).filter fun i => gZ a b m p l i).map fun (x : Nat) => (x : Int)) (fun c r hr=>by
   show F0 k _ l a.length a.length a b m p r2 r3 m4 r=_;unfold F0;simp) (fun c i r hi hr=>by
   have hle:r.length≤i:=by
    grind
   have aZ:zL (r.length+1) 8=true:=qF;refine⟨_,?_,rfl⟩;show F0 k _ l a.length i a b m p r2 r3 m4 r=_;unfold F0;simp only[qD hi (by grind),ZJ (show l.length<k by omega) (by omega)];rw[yRt hl.1,yVf,←hr];cases hz:decide (zQ (gN i) l+zQ (gR i) l=0) with
   |true=>
    have:gZ a b m p l i=false:=by unfold gZ;simp_all
    simp_all
   |false=>
    rw[ZP hk hb hl hm hi hz];grind) (n:=k) (s:=[]) (by omega) rfl
 unfold Cf;rw[g1];simp;have fa:FZ k k l a.length 0 a b m p r2 r3 m4 []=some r:=h1;rw[fa,h2];rfl
theorem vHe {k a b m p l}(hk:100<k)(hb:jA a b m p)(hl:wH a.length l):uP k a b m p l=some (uR a b m p l):=by
 have h6:=hb.n6;obtain ⟨r, h1, h2⟩ := vA (L := fun c i (r : AC) => uQ k c l i a b m p r) (N := a.length) (fun r => r) (fun i r => r = ((List.range i).filter fun i => gZ a b m p l i).map fun (x : Nat) => (x : Int)) (fun c r hr=>by
   show ta k _ l a.length a b m p r=_;unfold ta;simp) (fun c i r hi hr=>by
   have hle:r.length≤i:=by
    grind
   have aZ:zL (r.length+1) 8=true:=qF;refine⟨_,?_,rfl⟩;show ta k _ l i a b m p r=_;unfold ta;simp[qD hi (by grind),yXv hk hb hl hi];rw[yVf,←hr];grind) (s:=[]) (show a.length<k by omega) rfl
 unfold uP;have fa:uQ k k l 0 a b m p []=some r:=h1;rw[fa,h2];rfl
theorem ZR {a b m p l}:decide (((uR a b m p l).length:Int)=0)=zY (fun i=> !gZ a b m p l i) a.length 0:=by
 unfold uR;cases h:zY (fun i=> !gZ a b m p l i) a.length 0 with
 |true=>
  rw[wJ] at h;simp_all
 |false=>
  apply ab;intro h0;obtain⟨j,hj,hs⟩:=QR.1 h;simp_all
theorem ZS {k}{l:List zJ}(hk:l.length<k)(hl:l.length<9223372036854775808)(a:List yG) b m p:QT k l a b m p=some (!om a.length l):=by
 obtain ⟨x, h1, h2⟩ := pt (L := fun c i => LG k c l l.length i a b m p) (N := l.length) (fun i => !px a.length (l.getD i pd)) (fun c=>by
  show F1 k _ l l.length l.length a b m p=_;unfold F1;simp) (fun c i hi=>by
  show F1 k _ l l.length i a b m p=_;unfold F1 ZT;simp[qB,qD hi hl,aa hi,Qt]) hk
 unfold QT ZU;unfold om;grind
theorem ZV {k a b m p}{l:List zJ}(hk:100<k)(hb:jA a b m p)(hl:l.length≤80):Cg k a b m p l=some (ye a b m p l):=by
 unfold Cg ye;have e:decide ((l.length:Int)≤64)=decide (l.length≤64):=by
  grind
 rw[e,ZS (by omega) (by omega)];cases bU:decide (l.length≤64) with
 |false=>simp
 |true=>
  cases hm:om a.length l with
  |false=>rfl
  |true=>
   have hr:wH a.length l:=⟨B9.1 hm,by grind⟩;simp only[ag,ae,aA,bO,ZQ hk hb hr,ZR,Bool.true_and]
def qP (l:List zJ):Prop:=List.Pairwise (fun p q=>p.1≠q.1) l
theorem qP.filter {l}(h:qP l) f:qP (l.filter f):=List.Pairwise.filter f h
theorem Ch {α:Type} f (l:List α) i d (h:i<l.length):(l.take (i+1)).filter f=(l.take i).filter f++(bif f (l.getD i d) then[l.getD i d] else[]):=by
 rw[←fE l i d h,List.filter_append];rfl
theorem LH {α X:Type}(d:α){l:List α}{L:Nat→Int→List α→Option X}(f:α→Bool)(e:List α→X)(bL:∀n s,L (n+1) (l.length:Int) s=some (e s))
  (aI:∀n i s,i<l.length→s.length≤i→L (n+1) (i:Int) s=L n ((i+1:Nat):Int) (bif f (l.getD i d) then s++[l.getD i d] else s)) {n:Nat} (hn:l.length<n):
  L n 0 []=some (e (l.filter f)):=by
 obtain ⟨s', h1, h2⟩ := vA (L := L) (N := l.length) e (fun i s => s = (l.take i).filter f) (fun n s _ => bL n s) (fun n i s hi hs=>by
  refine⟨_,aI n i s hi ?_,?_⟩
  ·subst hs;have:=List.length_filter_le f (l.take i);rw[bZ] at this;omega
  ·subst hs;rw[Ch f l i d hi];cases f (l.getD i d)<;>simp) (s:=[]) hn (by simp)
 rw[h1,h2,List.take_length]
def yB (l:List zJ):Prop:=l.length≤9999
theorem ot {n}(h:n≤9999):zL (n+1) 56=true:=qF
def kp (t:Int)(p:zJ):Bool:=bif decide (t≥p.2.2.2.2.2.1) then decide (t≤p.2.2.2.2.2.2) else false
theorem ZW {k l}(hk:l.length<k)(hl:yB l) t:F2 k l t=some (l.filter (kp t)):=by
 unfold F2 ZX;have := LH pd (L := fun n i s => LI k n l l.length i t s) (kp t) id (fun n s=>by
  show F3 k _ l l.length l.length t s=_;unfold F3;simp) (fun n i s hi hs=>by
  show F3 k _ l l.length i t s=_;unfold F3 ZY ZZ;unfold yB at hl;simp[qB,qD hi (by grind),ot (show s.length≤9999 by omega)];unfold kp;grind) hk
 simp_all
theorem Z0 {k l}(hk:l.length<k)(hl:yB l) t:F4 k l t=some (l.filter (kp t)):=by
 unfold F4;have := LH pd (L := fun n i s => LJ k n l t i s) (kp t) id (fun n s=>by
  show F5 k _ l t l.length s=_;unfold F5;simp) (fun n i s hi hs=>by
  show F5 k _ l t i s=_;unfold F5 Z1;unfold yB at hl;simp[qB,qD hi (by grind),ot (show s.length≤9999 by omega)];unfold kp;grind) hk
 simp_all
def jE (f:Int)(p:zJ):Bool:=decide (p.2.1=f)
theorem QU {k l}(hk:l.length<k)(hl:yB l) f:uS k l f=some (l.filter (jE f)):=by
 unfold uS;have := LH pd (L := fun n i s => LK k n l f i s) (jE f) id (fun n s=>by
  show F6 k _ l f l.length s=_;unfold F6;simp) (fun n i s hi hs=>by
  show F6 k _ l f i s=_;unfold F6;unfold yB at hl;simp[qB,qD hi (by grind),ot (show s.length≤9999 by omega)];unfold jE;grind) hk
 simp_all
def QV (r:List zJ)(p:zJ):Bool:=zY (fun x=>decide (((r.filter (jE p.2.1)).getD x pd).2.2.2.2.1=3)) (r.filter (jE p.2.1)).length 0
def QW (r:List zJ)(p:zJ):Bool:=decide ((r.filter (jE p.2.1)).getD 0 pd=p)
def tc (r:List zJ)(p:zJ):Bool:=QW r p||QV r p
def wM (l:List zJ)(t:Int):List zJ:=(l.filter (kp t)).filter (tc (l.filter (kp t)))
theorem eq7 (p q:zJ):((decide (p.1=q.1))&&((decide (p.2.1=q.2.1))&&((decide (p.2.2.1=q.2.2.1))&&((decide (p.2.2.2.1=q.2.2.2.1))&&((decide (p.2.2.2.2.1=q.2.2.2.2.1))&&((decide (p.2.2.2.2.2.1=q.2.2.2.2.2.1))&&(decide (p.2.2.2.2.2.2=q.2.2.2.2.2.2))))))))=decide (p=q):=by
 grind
theorem Z2 {k n:Nat}(s7:Int)(r0 r1 r2:List zJ)(hk:r2.length<n)(hl:yB r2):
  F7 k n s7 true 0 r0 r1 r2=some (s7,zY (fun x=>decide ((r2.getD x pd).2.2.2.2.1=3)) r2.length 0,r0,r1,r2):=by
 obtain ⟨s', h1, h2⟩ := vA (L := fun n i s => F7 k n s7 s i r0 r1 r2) (N := r2.length) (fun s => (s7, s, r0, r1, r2)) (fun i s => s = zY (fun x => decide ((r2.getD x pd).2.2.2.2.1 = 3)) i 0) (fun n s _=>by
  show F8 k _ s7 s r2.length r0 r1 r2=_;unfold F8;simp only [qZ, ab (Nat.lt_irrefl _), ak]) (fun n i s hi hs=>by
  refine⟨_,?_,rfl⟩;show F8 k _ s7 s i r0 r1 r2=_;unfold F8;unfold yB at hl;simp only[qB,qD hi (show r2.length<9223372036854775808 by omega),qZ,ao,aa hi,ag];have e:zY (fun x=>decide ((r2.getD x pd).2.2.2.2.1=3)) (i+1) 0=(s&&decide ((r2.getD i pd).2.2.2.2.1=3)):=by
   rw[Bool.eq_iff_iff,hs];simp only[wJ,aR,ba];constructor
   ·intro h;exact⟨fun j hj=>h j (by omega),h i (by omega)⟩
   ·rintro⟨h1,h2⟩ j hj
    by_cases c:j=i
    ·subst c;exact h2
    ·exact h1 j (by omega)
  rw[e];cases s<;>rfl) (s:=true) hk rfl
 exact h1.trans (by rw[h2])
theorem vMm {k l}(hk:l.length<k)(hl:yB l) t:LL k l t=some (wM l t):=by
 unfold LL;rw[Z0 hk hl];unfold wM;have dL:(l.filter (kp t)).length≤l.length:=by grind
 generalize l.filter (kp t)=r at dL;unfold yB at hl;have := LH pd (L := fun n i s => LM k n i r s) (l := r) (tc r) id (fun n s=>by
  show F9 k _ r.length r s=_;unfold F9;simp) (fun n i s hi hs=>by
  show F9 k _ i r s=_;unfold F9;have xp:(r.filter (jE (r.getD i pd).2.1)).length≤r.length:=by grind
  have ub:0<(r.filter (jE (r.getD i pd).2.1)).length:=by
   apply List.length_pos_of_mem (a:=r.getD i pd);rw[List.mem_filter];exact⟨fD hi,by simp[jE]⟩
  have Z3:=QU (k:=k) (l:=r) (by omega) (show r.length≤9999 by omega) (r.getD i pd).2.1;have b0:∀n:Nat,zB 0 n=decide (0<n):=fun n=>qB 0 n
  have e7:=eq7 ((r.filter (jE (r.getD i pd).2.1)).getD 0 pd) (r.getD i pd);simp only[ao];rw[Z3];simp only[ae];rw[Z2 ((i:Nat):Int) r s _ (by omega) (show _≤9999 by omega)];simp[b0,qB,qD hi (by grind),ot (show s.length≤9999 by omega)];unfold tc QW QV;grind) (show r.length<k by omega)
 simp_all
def Ck (f:Int)(q:zJ):Bool:=decide (q.2.1=f)&& !decide (q.2.2.2.2.1=3)
theorem Z4 {k}{l:List zJ}(hk:l.length<k)(hl:l.length<9223372036854775808) i f t a c s e:
  QY k l i f t a c s e=some (!zY (fun x=> !Ck f (l.getD x pd)) l.length 0):=by
 obtain ⟨x, h1, h2⟩ := pt (L := fun n i' => LN k n l l.length i' i f t a c s e) (N := l.length) (fun x => Ck f (l.getD x pd)) (fun n=>by
  show Ga k _ l l.length l.length i f t a c s e=_;unfold Ga;simp) (fun n j hj=>by
  show Ga k _ l l.length j i f t a c s e=_;unfold Ga Z5;simp[qB,qD hj hl];unfold Ck;grind) hk
 unfold QY Z6;grind
theorem Z7 (r:List zJ)(p:zJ):QV r p=true↔∀q∈r,q.2.1=p.2.1→q.2.2.2.2.1=3:=by
 unfold QV;rw[wJ];constructor
 ·intro h q hq he;have hm:q∈r.filter (jE p.2.1):=List.mem_filter.2 ⟨hq,by simp[jE,he]⟩;obtain⟨i,hi,e⟩:=List.getElem_of_mem hm;have:=h i hi;rw[bT,List.getElem?_eq_getElem hi,e] at this
  simpa using this
 ·intro h j hj;have hm:=fD (d:=pd) hj;rw[List.mem_filter] at hm;have:=h _ hm.1 (by simpa[jE] using hm.2)
  simpa using this
theorem vZk (r:List zJ)(f:Int):zY (fun x=> !Ck f (r.getD x pd)) r.length 0=true↔∀q∈r,q.2.1=f→q.2.2.2.2.1=3:=by
 rw[wJ];constructor
 ·intro h q hq he;obtain⟨i,hi,e⟩:=List.getElem_of_mem hq;have:=h i hi;rw[bT,List.getElem?_eq_getElem hi,e] at this
  simpa[Ck,he] using this
 ·intro h j hj;have:=h _ (fD (d:=pd) hj);simp only[Ck,Bool.not_eq_true',Bool.and_eq_false_iff,Bool.not_eq_false',ba,decide_eq_false_iff_not];by_cases c:(r.getD j pd).2.1=f
  ·exact .inr (this c)
  ·exact .inl c
theorem qP.split {r}(h:qP r){i}(hi:i<r.length):∀q∈r.take i,q.1≠(r.getD i pd).1:=by
 intro q hq;have e:r.take (i+1)=r.take i++[r.getD i pd]:=(fE r i pd hi).symm;have hs:qP (r.take (i+1)):=List.Pairwise.sublist (by grind) h;rw[e] at hs;exact(List.pairwise_append.1 hs).2.2 q hq _ (by simp)
theorem QZ {α:Type} r i (d:α)(hi:i<r.length):r=r.take i++r.getD i d::r.drop (i+1):=by
 simp_all
theorem Z8 {r}(h:qP r){i}(hi:i<r.length):QW r (r.getD i pd)= !(r.take i).any (jE (r.getD i pd).2.1):=by
 unfold QW;have e:∀f,jE f (r.getD i pd)=true→r.filter (jE f)=(r.take i).filter (jE f)++r.getD i pd::(r.drop (i+1)).filter (jE f):=by
  intro f hf;have:=congrArg (List.filter (jE f)) (QZ r i pd hi);grind
 have e:=e (r.getD i pd).2.1 (by simp[jE]);rw[e];cases ha:(r.take i).any (jE (r.getD i pd).2.1) with
 |false=>
  have:(r.take i).filter (jE (r.getD i pd).2.1)=[]:=by
   simp_all
  grind
 |true=>
  cases hf:(r.take i).filter (jE (r.getD i pd).2.1) with
  |nil=>
   rw[List.filter_eq_nil_iff] at hf;grind
  |cons q l=>
   have hq:q∈r.take i:=(List.mem_filter.1 (hf▸List.mem_cons_self ..:q∈(r.take i).filter _)).1;have:=h.split hi q hq;grind
theorem vWu {r}(h:qP r){i}(hi:i<r.length):
  tc r (r.getD i pd)=(!(r.take i).any (jE (r.getD i pd).2.1)||(decide ((r.getD i pd).2.2.2.2.1=3)&&zY (fun x=> !Ck (r.getD i pd).2.1 (r.getD x pd)) r.length 0)):=by
 unfold tc;rw[Z8 h hi]
 congr 1
 rw[Bool.eq_iff_iff,Z7,aR,vZk,ba];grind
theorem lookup_cons (f g:Int)(l:List (Int×Bool)):(List.lookup f ((g,true)::l)).getD false=(decide (f=g)||(List.lookup f l).getD false):=by
 rw[List.lookup_cons];by_cases c:f=g
 ·subst c;simp
 ·have:(f==g)=false:=by simpa using c
  rw[this];simp[c]
theorem vKz {k:Nat}{l:List zJ}(hk:l.length<k)(hl:yB l)(hd:qP l)(t:Int):LO k l t=some (wM l t):=by
 unfold LO;rw[ZW hk hl];simp only[ae];unfold wM;have dL:(l.filter (kp t)).length≤l.length:=List.length_filter_le _ _;have xr:=hd.filter (kp t);generalize l.filter (kp t)=r at dL xr;unfold yB at hl;unfold Z9;obtain ⟨s', h1, h2, h3⟩ := vA (L := fun n i (s : List (Int × Bool) × List zJ) => Gc k n r r.length i s.1 r s.2) (N := r.length) (fun s => (s.1, r, s.2)) (fun i s => (∀ f, (List.lookup f s.1).getD false = (r.take i).any (jE f)) ∧ s.2 = (r.take i).filter (tc r)) (fun n s _=>by
  show Gd k _ r r.length r.length s.1 r s.2=_;unfold Gd;simp only [qZ, ab (Nat.lt_irrefl _), ak]) (fun n i s hi hs=>by
  refine⟨(((r.getD i pd).2.1,true)::s.1,bif tc r (r.getD i pd) then s.2++[r.getD i pd] else s.2),?_,?_,?_⟩
  ·show Gd k _ r r.length i s.1 r s.2=_;unfold Gd yDi;have hlen:s.2.length≤i:=by
    rw[hs.2];have:=List.length_filter_le (tc r) (r.take i);rw[bZ] at this;omega
   have hc:=Z4 (k:=k) (l:=r) (by omega) (by omega) (r.getD i pd).1 (r.getD i pd).2.1 (r.getD i pd).2.2.1 (r.getD i pd).2.2.2.1 (r.getD i pd).2.2.2.2.1 (r.getD i pd).2.2.2.2.2.1 (r.getD i pd).2.2.2.2.2.2;have uB:=hs.1 (r.getD i pd).2.1;have hp:=vWu xr hi;simp only[pd] at hc uB hp⊢;simp only[qB,qD hi (show r.length<9223372036854775808 by omega),qZ,ao,aa hi,ag,ot (show s.2.length≤9999 by omega)];rw[hc,uB,hp];generalize (r.take i).any _=x;generalize zY _ _ 0=y;generalize decide ((r.getD i (0,(0,(0,(0,(0,(0,0))))))).2.2.2.2.1=3)=z;cases x<;>cases y<;>cases z<;>rfl
  ·intro f;rw[lookup_cons,hs.1 f,←fE r i pd hi,List.any_append,Bool.or_comm]
   congr 1
   simp only[List.any_cons,List.any_nil,Bool.or_false,jE];rw[Bool.eq_iff_iff];simp only[ba];exact eq_comm
  ·show(bif tc r (r.getD i pd) then s.2++[r.getD i pd] else s.2)=_;rw[hs.2,Ch _ _ _ pd hi];cases tc r (r.getD i pd)<;>simp) (s:=([],[])) (show r.length<k by omega) ⟨fun f=>by simp,by simp⟩
 have fa:Gc k k r r.length 0 [] r []=some (s'.1,r,s'.2):=h1;rw[fa,h3,List.take_length];rfl
def yf (p:Nat→Bool):Nat→Nat→Option Nat
 |0,_=>none
 |c+1,i=>bif p i then some i else yf p c (i+1)
def qOs:Option Nat→Unit⊕Int
 |some x=>.inr (x:Int)
 |none=>.inl ()
theorem qWf {L:Nat→Int→Option (Unit⊕Int)}{N:Nat} bad (bL:∀n,L (n+1) (N:Int)=some (.inl ()))
  (aI:∀n i,i<N→L (n+1) (i:Int)=bif bad i then some (.inr (i:Int)) else L n ((i+1:Nat):Int)):
  ∀c i n,i+c=N→c<n→L n (i:Int)=some (qOs (yf bad c i))
 |0,i,n,h,hn=>by
  obtain⟨n,rfl⟩:=aoa n;have:i=N:=by omega
  subst this;exact bL n
 |c+1,i,n,h,hn=>by
  obtain⟨n,rfl⟩:=aoa n;rw[aI n i (by omega)];unfold yf;cases hb:bad i with
  |true=>rfl
  |false=>
   exact qWf bad bL aI c (i+1) n (by omega) (by omega)
theorem yTl {p}:∀{c i x},yf p c i=some x→i≤x∧x<i+c∧p x=true∧∀j,i≤j→j<x→p j=false
 |c+1,i,x,h=>by
  unfold yf at h;cases hp:p i with
  |true=>
   grind
  |false=>
   rw[hp] at h;obtain⟨h1,h2,h3,h4⟩:=yTl h;grind
theorem yNs {p}:∀{c i},yf p c i=none→∀j,i≤j→j<i+c→p j=false
 |0,_,_=>by grind
 |c+1,i,h=>by
  unfold yf at h;cases hp:p i with
  |true=>
   simp_all
  |false=>
   rw[hp] at h;intro j j1 j2;by_cases e:j=i
   ·simp_all
   ·exact yNs h j (by omega) (by omega)
def vX (l:List zJ)(id:Int):Option Nat:=yf (fun x=>decide ((l.getD x pd).1=id)) l.length 0
def fi (l:List zJ)(id:Int):Int:=match vX l id with|some x=>(x:Int)|none=>-1
theorem kZ {l id x}(h:vX l id=some x):x<l.length∧(l.getD x pd).1=id:=by
 obtain⟨_,h2,h3,_⟩:=yTl h;simp_all
theorem aaa {l id}(h:vX l id=none):∀p∈l,p.1≠id:=by
 intro p hp e;obtain⟨i,hi,e'⟩:=List.getElem_of_mem hp;have:=yNs h i (by omega) (by omega);simp_all
theorem Q0 {l p}(h:p∈l):∃x,vX l p.1=some x:=by
 cases e:vX l p.1 with
 |some x=>simp
 |none=>exact absurd rfl (aaa e p h)
theorem LP {k}{l:List zJ}(hk:l.length<k)(hl:l.length<9223372036854775808) id:mE k l id=some (fi l id):=by
 have := qWf (L := fun n i => Ge k n l id i) (N := l.length) (fun x => decide ((l.getD x pd).1 = id)) (fun n=>by
  show Gf k _ l id l.length=_;unfold Gf;simp) (fun n j hj=>by
  show Gf k _ l id j=_;unfold Gf;simp[qB,qD hj hl,aa hj]) l.length 0 k (by omega) hk
 have h1:Ge k k l id 0=some (qOs (vX l id)):=this;unfold mE fi;rw[h1];cases vX l id<;>rfl
theorem Gg {k}{l:List zJ}(hk:l.length<k)(hl:l.length<9223372036854775808) id:py k l id=some (fi l id):=by
 have := qWf (L := fun n i => Gh k n l l.length i id) (N := l.length) (fun x => decide ((l.getD x pd).1 = id)) (fun n=>by
  show Gj k _ l l.length l.length id=_;unfold Gj;simp) (fun n j hj=>by
  show Gj k _ l l.length j id=_;unfold Gj yGp;simp only[qB,qD hj hl,qZ,aa hj];rfl) l.length 0 k (by omega) hk
 have h1:Gh k k l l.length 0 id=some (qOs (vX l id)):=this;unfold py qQ0 fi;rw[h1];cases vX l id<;>rfl
def yN (l:List zJ)(x:Nat):List zJ:=l.take x++l.drop (x+1)
theorem ou {l x}(h:x<l.length):(yN l x).length=l.length-1:=by
 unfold yN;grind
theorem uT l x:List.Sublist (yN l x) l:=by
 unfold yN
 conv=>rhs;rw[←List.take_append_drop x l]
 grind
theorem qP.cut {l}(h:qP l) x:qP (yN l x):=List.Pairwise.sublist (uT l x) h
theorem vEh k {l}{x:Nat}(hx:x<l.length)(hl:yB l):LQ k l x ((x+1:Nat):Int)=some (yN l x):=by
 unfold LQ;have c1:(decide ((0:Int)≤(x:Int)))=true:=by simp
 have c2:decide ((x:Int)≤((x+1:Nat):Int))=true:=aa;have c3:decide (((x+1:Nat):Int)≤(l.length:Int))=true:=aa;have c4:decide ((l.length:Int)≤(l.length:Int))=true:=by simp
 have c5:decide ((x:Int)=((x+1:Nat):Int))=false:=ab;have c6:decide ((x:Int)≤(l.length:Int))=true:=aa;have c7:decide ((0:Int)≤((x+1:Nat):Int))=true:=aa;have c8:Nat.ble (x-0) (0+(x+1))=true:=by simp
 simp only[ao,c1,c2,c3,c4,c5,c6,c7,c8,ak];have e0:x-0+(l.length-(x+1))=l.length-1:=by omega
 have e1:List.take (x-0) l++qS l (0+(x+1)) (l.length-(x+1))=yN l x:=by
  unfold qS yN;rw[Nat.sub_zero,Nat.zero_add]
  congr 1
  rw[List.take_of_length_le];rw[List.length_drop];exact Nat.le_refl _
 have e2:(qS (yN l x++List.drop (l.length-1) l) 0 (l.length-1))=yN l x:=by
  unfold qS;rw[List.drop_zero,List.take_append_of_le_length (by rw[ou hx];exact Nat.le_refl _),List.take_of_length_le (by rw[ou hx];exact Nat.le_refl _)]
 have e3:(yN l x++List.drop (l.length-1) l).length=l.length:=by
  rw[ay,List.length_drop,ou hx];omega
 have c9:decide ((0:Int)≤((yN l x).length:Int))=true:=by simp
 have Q1:decide (((yN l x).length:Int)≤(l.length:Int))=true:=by grind
 have Cl:decide ((l.length:Int)≤((l.length-0:Nat):Int))=true:=by simp
 have e4:List.take (0+(yN l x).length) (yN l x++List.drop (l.length-1) l)=yN l x:=by
  rw[Nat.zero_add,List.take_append_of_le_length (Nat.le_refl _),List.take_of_length_le (Nat.le_refl _)]
 simp only[e0,e1,e2,e3,c9,Q1,Cl,e4,Bool.and_true,ag];rw[List.append_assoc,List.take_append_of_le_length (by rw[ou hx];exact Nat.le_refl _),List.take_of_length_le (by rw[ou hx];exact Nat.le_refl _)]
def iG (l:List zJ)(id:Int):List zJ×Int×Int×Int×Int×Int×Int×Int×Int:=match vX l id with
 |some x=>(yN l x,(l.getD x pd).1,(l.getD x pd).2.1,(l.getD x pd).2.2.1,(l.getD x pd).2.2.2.1,(l.getD x pd).2.2.2.2.1,(l.getD x pd).2.2.2.2.2.1,(l.getD x pd).2.2.2.2.2.2,0)
 |none=>(l,0,0,0,0,0,0,0,4)
theorem Cm {k l}(hk:l.length<k)(hl:yB l) id:qx k l id=some (iG l id):=by
 unfold yB at hl;unfold qx;rw[Gg hk (by omega)];unfold fi iG;cases hp:vX l id with
 |none=>rfl
 |some x=>
  have hx:=(kZ hp).1;have e1:decide ((x:Int)<0)=false:=by simp
  have e2:yg k l=some l:=by
   unfold yg;rw[qF];rfl
  simp only[ae,e1,ak,e2,qD hx (by grind),vEh k hx hl,qB,aa hx,ag,ao]
def wE (q p:zJ):Bool:=decide (q.2.1<p.2.1)||(decide (q.2.1=p.2.1)&&decide (q.2.2.2.2.1≤p.2.2.2.2.1))
def jc (q p:zJ):Bool:=decide (q.2.1<p.2.1)||(decide (q.2.1=p.2.1)&&decide (q.2.2.2.2.1<p.2.2.2.2.1))
theorem aab n x y:Q2 (n+3) [x,y]=some (if x=0 then y else x):=by
 have key:∀n:Nat,LR (n+3) (n+3) 0 [x,y] 2 0=bif !decide (x=0) then some (.inr x) else bif !decide (y=0) then some (.inr y) else some (.inl 0):=fun n=>rfl
 unfold Q2;grind
theorem aac k a b:LS k a b=some (if a<b then-1 else if a>b then 1 else 0):=by
 unfold LS Q3;grind
theorem qSh {k}(hk:3≤k) q p:∃x,Gk k q.1 q.2.1 q.2.2.1 q.2.2.2.1 q.2.2.2.2.1 q.2.2.2.2.2.1 q.2.2.2.2.2.2 p.1 p.2.1 p.2.2.1 p.2.2.2.1 p.2.2.2.2.1 p.2.2.2.2.2.1 p.2.2.2.2.2.2=some x∧decide (x≤0)=wE q p∧decide (x<0)=jc q p:=by
 obtain⟨n,rfl⟩:∃n,k=n+3:=⟨k-3,by omega⟩;unfold Gk;simp only[aac,aab];refine⟨_,rfl,?_,?_⟩
 ·unfold wE;grind
 ·unfold jc;grind
def LU (ok:Nat→Bool):Nat→Nat→Nat
 |0,i=>i
 |c+1,i=>bif ok i then LU ok c (i+1) else i
theorem Gl {X:Type}{L:Nat→Int→Option X}{N:Nat} ok (e:Nat→X)(bL:∀n,L (n+1) (N:Int)=some (e N))
  (aI:∀n i,i<N→L (n+1) (i:Int)=bif ok i then L n ((i+1:Nat):Int) else some (e i)):∀c i n,i+c=N→c<n→L n (i:Int)=some (e (LU ok c i))
 |0,i,n,h,hn=>by
  obtain⟨n,rfl⟩:=aoa n;have:i=N:=by omega
  subst this;exact bL n
 |c+1,i,n,h,hn=>by
  obtain⟨n,rfl⟩:=aoa n;rw[aI n i (by omega)];unfold LU;cases ok i with
  |false=>rfl
  |true=>exact Gl ok e bL aI c (i+1) n (by omega) (by omega)
theorem Gm {α:Type} f (l:List α) d:∀c i,i+c=l.length→LU (fun x=>f (l.getD x d)) c i=i+((l.drop i).takeWhile f).length
 |0,i,h=>by
  rw[List.drop_eq_nil_of_le (by omega)];rfl
 |c+1,i,h=>by
  rw[List.drop_eq_getElem_cons (by grind)];unfold LU;have e:l.getD i d=l[i]:=by grind
  rw[e];cases hf:f l[i] with
  |false=>rw[List.takeWhile_cons_of_neg (by simp[hf])];rfl
  |true=>
   rw[List.takeWhile_cons_of_pos hf,ag,Gm f l d c (i+1) (by omega),List.length_cons];omega
theorem ow {α:Type} f (l:List α):l.take (l.takeWhile f).length=l.takeWhile f∧l.drop (l.takeWhile f).length=l.dropWhile f:=by
 have e:=List.takeWhile_append_dropWhile (p:=f) (l:=l);grind
theorem Cn {α:Type} f (l:List α):(l.takeWhile f).length≤l.length:=(List.takeWhile_sublist f).length_le
theorem qNz {α b} f l (p:α)(hl:l.length≤9999)(hb:b≤9999):ins b l (((l.takeWhile f).length:Nat):Int) [p]=some (l.takeWhile f++(p::l.dropWhile f)):=by
 unfold ins;have h:=Cn f l;have hm:(l.length+1)*b≤10000*9999:=Nat.mul_le_mul (by omega) hb;rw[aa (by simp),aa (by grind),qF (by grind) (by omega),ao,(ow f l).1,(ow f l).2];rfl
def pz (l:List zJ)(p:zJ):List zJ:=l.takeWhile (fun q=>wE q p)++(p::l.dropWhile (fun q=>wE q p))
def LV (l:List zJ)(p:zJ):List zJ:=l.takeWhile (fun q=>jc q p)++(p::l.dropWhile (fun q=>jc q p))
theorem yLz {k l}(hl:yB l):yg k l=some l:=by
 unfold yB at hl;unfold yg;rw[qF];rfl
theorem aad {k}(hk:3≤k) l (hl:yB l)(bK:l.length<k)(p:zJ):LW k k l 0 p=some (l,(((l.takeWhile (fun q=>wE q p)).length:Nat):Int),p):=by
 unfold yB at hl;have := Gl (L := fun n i => LW k n l i p) (N := l.length) (fun x => wE (l.getD x pd) p) (fun i => (l, (i : Int), p)) (fun n=>by
  show Gn k _ l l.length p=_;unfold Gn;simp) (fun n i hi=>by
  show Gn k _ l i p=_;unfold Gn;obtain⟨x,h1,h2,_⟩:=qSh hk (l.getD i pd) p;simp only[qB,qZ,ao,aa hi,h1,ae,h2,qD hi (by grind)];rfl) l.length 0 k (by omega) bK
 have e:((0:Nat):Int)=0:=rfl;rw[e] at this;rw[this,Gm (fun q=>wE q p) l pd l.length 0 (by omega),List.drop_zero,Nat.zero_add]
theorem qPy {k l}(hk:3≤k)(bK:l.length<k)(hl:yB l)(p:zJ):
  yh k l p=some (bif (vX l p.1).isSome then(l,6) else bif decide (40≤l.length) then(l,3) else(pz l p,0)):=by
 have dL:=hl;unfold yB at hl;unfold yh;rw[Gg bK (by omega)];unfold fi;cases hp:vX l p.1 with
 |some x=>
  rfl
 |none=>
  by_cases h:40≤l.length
  ·grind
  ·rw[ab h,ab (by grind)];simp[aad hk l dL bK,yLz dL,Q4];rw[qNz _ l p hl (by decide)];rfl
theorem yBt {l x}(h:yB l):yB (yN l x):=by
 unfold yB at*
 have:=(uT l x).length_le;omega
def LX (l:List zJ)(id:Int):List zJ:=match vX l id with|some x=>yN l x|none=>l
theorem yRm {l id}(hd:qP l):vX (LX l id) id=none:=by
 cases h:vX (LX l id) id with
 |none=>rfl
 |some y=>
  exfalso;obtain⟨h1,h2⟩:=kZ h;unfold LX at h h1 h2;cases hp:vX l id with
  |none=>
   rw[hp] at h;rw[hp] at h;cases h
  |some x=>
   rw[hp] at h1 h2;obtain⟨h3,h4⟩:=kZ hp;have hm:=fD (d:=pd) h1;have e:=QZ l x pd h3;rw[e] at hd;have LY:=List.pairwise_append.1 hd;have hd3:=List.pairwise_cons.1 LY.2.1;rcases List.mem_append.1 hm with hm|hm
   ·exact LY.2.2 _ hm _ (List.mem_cons_self ..) (h2.trans h4.symm)
   ·exact hd3.1 _ hm (h4.trans h2.symm)
theorem vUr {k l}(hk:3≤k)(bK:l.length<k)(hl:yB l)(hd:qP l)(h40:l.length≤40){id x}(hx:vX l id=some x) c:
  Gp k l id c=some (pz (yN l x) ((l.getD x pd).1,(l.getD x pd).2.1,(l.getD x pd).2.2.1,(l.getD x pd).2.2.2.1,c,(l.getD x pd).2.2.2.2.2.1,(l.getD x pd).2.2.2.2.2.2),0):=by
 have du:=kZ hx;have hw:=yRm (id:=id) hd;unfold LX at hw;have hlen:=ou du.1;unfold Gp;rw[Cm bK hl];unfold iG;rw[hx];simp;rw[qPy hk (by omega) (yBt hl)];grind
theorem vTe {k l}(hk:3≤k)(bK:l.length<k)(hl:yB l)(hd:qP l)(h40:l.length≤40){id x}(hx:vX l id=some x):
  Gq k l id=some (pz (yN l x) (l.getD x pd),0):=by
 have du:=kZ hx;have hw:=yRm (id:=id) hd;unfold LX at hw;have hlen:=ou du.1;unfold Gq;rw[Cm bK hl];unfold iG;rw[hx];simp;rw[qPy hk (by omega) (yBt hl)];grind
theorem vOp {k}(hk:3≤k) l (hl:yB l)(bK:l.length<k)(p:zJ):LZ k k 0 l p=some ((((l.takeWhile (fun q=>jc q p)).length:Nat):Int),l,p):=by
 unfold yB at hl;have := Gl (L := fun n i => LZ k n i l p) (N := l.length) (fun x => jc (l.getD x pd) p) (fun i => ((i : Int), l, p)) (fun n=>by
  show Gr k _ l.length l p=_;unfold Gr;simp) (fun n i hi=>by
  show Gr k _ i l p=_;unfold Gr;obtain⟨x,h1,_,h2⟩:=qSh hk (l.getD i pd) p;simp only[qB,qZ,ao,aa hi,h1,ae,h2,qD hi (by grind)];rfl) l.length 0 k (by omega) bK
 have e:((0:Nat):Int)=0:=rfl;rw[e] at this;rw[this,Gm (fun q=>jc q p) l pd l.length 0 (by omega),List.drop_zero,Nat.zero_add]
theorem aae {k l}(hk:3≤k)(bK:l.length<k)(hl:yB l){id x}(hx:vX l id=some x):
  Gs k l id=some (LV (yN l x) (l.getD x pd),0):=by
 have dL:=hl;unfold yB at hl;have du:=kZ hx;have hlen:=ou du.1;have e1:decide ((x:Int)<0)=false:=by simp
 unfold Gs yC2;rw[Gg bK (by omega)];unfold fi;rw[hx];simp only[ae,e1,ak,yLz dL,qD du.1 (by grind),vEh k du.1 dL,qB,aa du.1,ag];rw[vOp hk (yN l x) (yBt dL) (by omega)];simp[Q4];rw[qNz _ (yN l x) _ (by omega) (by decide)];rfl
def idx (l:AC)(id:Int):Nat:=(l.takeWhile (fun x=>decide (x<id))).length
theorem aaf {x}(h0:0≤x)(h1:x<9223372036854775808):zA (shr .u64 (IntKind.wrap .u64 (zA x)) 1)=x/2:=by
 have e1:zA x=x:=zP (by omega) h1;have e2:IntKind.wrap .u64 x=x:=by
  unfold IntKind.wrap;simp[IntKind.bits];omega
 rw[e1,e2];have e3:shr .u64 x 1=x/2:=by
  have:(2:Int)^(min (1:Int).toNat (IntKind.bits .u64))=2:=by decide
  grind
 rw[e3];exact zP
theorem aag k a b:Q5 k a b=some (decide (a<b)):=by
 unfold Q5 Q6;simp
theorem qZi {k l id}(hl:l.length≤9999){c:Nat}(hc:c≤l.length)(h1:∀x,x<c→l.getD x 0<id)(h2:∀x,c≤x→x<l.length→id≤l.getD x 0) s6:
  ∀n i j,i≤c→c≤j→j≤l.length→j-i<n→L4 k n l id s6 i j=some (l,id,s6,(c:Int))
 |n+1,i,j,hi,hj,sw,hn=>by
  show Q7 k (L4 k n) l id s6 i j=_;unfold Q7;rw[qZ];by_cases mZ:i<j
  ·have hh:zA (shr .u64 (IntKind.wrap .u64 (zA ((i:Int)+(j:Int)))) 1)=(((i+j)/2:Nat):Int):=by
    rw[aaf (by omega) (by omega)];omega
   have hm:(i+j)/2<l.length:=by omega
   rw[aa mZ,ag,hh,qB,aa hm,ag,aag];simp only[ae,ao];by_cases aS:(i+j)/2<c
   ·rw[aa (h1 _ aS),ag,qD hm (by omega)];exact qZi hl hc h1 h2 s6 n _ j (by omega) hj sw (by omega)
   ·rw[ab (by grind),ak];exact qZi hl hc h1 h2 s6 n i _ hi (by omega) (by omega) (by omega)
  grind
theorem vS4 {k l id}(bK:l.length<k)(hl:l.length≤9999){c:Nat}(hc:c≤l.length)(h1:∀x,x<c→l.getD x 0<id)(h2:∀x,c≤x→x<l.length→id≤l.getD x 0):
  Gt k l id=some ((c:Int),decide (c<l.length)&&decide (l.getD c 0=id)):=by
 unfold Gt;have:=qZi (k:=k) hl hc h1 h2 (l.length:Int) k 0 l.length (by omega) hc (by simp) (by omega);rw[show((0:Nat):Int)=0 from rfl] at this;rw[this];simp only[ae,qB,ao];by_cases h:c<l.length
 ·simp only[aa h];by_cases h3:l.getD c 0=id
  ·simp_all
  ·rw[ab h3];unfold Q8;simp
 grind
def qy (l:AC):Prop:=List.Pairwise (fun a b=>a<b) l
theorem vDd {l id}:∀x,x<idx l id→l.getD x 0<id:=by
 intro x hx;unfold idx at hx;have h:=ow (fun x=>decide (x<id)) l;have e:l.getD x 0=(l.takeWhile (fun x=>decide (x<id))).getD x 0:=by
  grind
 have hm:=fD (d:=(0:Int)) hx;have:=List.all_eq_true.1 (List.all_takeWhile (p:=fun x=>decide (x<id)) (l:=l)) _ hm;simp_all
theorem vEg {l}(ha:qy l){id}:∀x,idx l id≤x→x<l.length→id≤l.getD x 0:=by
 intro x hx hl;have hi:idx l id<l.length:=by omega
 have h:=ow (fun x=>decide (x<id)) l;have h0:¬l.getD (idx l id) 0<id:=by
  have hd:l.drop (idx l id)=l[idx l id]::l.drop (idx l id+1):=by simp
  have h2:=h.2;unfold idx at hd;rw[h2] at hd;have bx:l.dropWhile (fun x=>decide (x<id))≠[]:=by rw[hd];simp
  have:=List.head_dropWhile_not (fun x=>decide (x<id)) bx;have e:(l.dropWhile (fun x=>decide (x<id))).head bx=l[idx l id]:=by
   unfold idx;simp_all
  simp_all
 by_cases e:x=idx l id
 ·rw[e];omega
 ·have:=List.pairwise_iff_getElem.1 ha (idx l id) x hi hl (by omega);grind
theorem vYg {l}(ha:qy l) id:(decide (idx l id<l.length)&&decide (l.getD (idx l id) 0=id))=decide (id∈l):=by
 by_cases hm:id∈l
 ·obtain⟨x,hx,e⟩:=List.getElem_of_mem hm;have e':l.getD x 0=id:=by simp_all
  have h1:¬x<idx l id:=fun h=>by have:=vDd x h;omega
  have h3:idx l id<l.length:=by omega
  have h4:¬idx l id<x:=fun h=>by
   have g1:=vEg ha (id:=id) (idx l id) (by simp) h3;have g2:=List.pairwise_iff_getElem.1 ha (idx l id) x h3 hx h;grind
  grind
 grind
def qz (l:AC)(id:Int):AC:=l.takeWhile (fun x=>decide (x<id))++(id::l.dropWhile (fun x=>decide (x<id)))
theorem yU5 {k l}(bK:l.length<k)(hl:l.length≤9999)(ha:qy l) id:Gt k l id=some ((idx l id:Int),decide (id∈l)):=by
 rw[vS4 bK hl (Cn _ l) vDd (vEg ha)];show some ((idx l id:Int),decide (idx l id<l.length)&&decide (l.getD (idx l id) 0=id))=_;rw[vYg ha]
theorem vQv {k l}(bK:l.length<k)(hl:l.length≤9999)(ha:qy l) id:Q9 k l id=some (decide (id∈l)):=by
 unfold Q9;rw[yU5 bK hl ha];rfl
theorem aah {k l}(bK:l.length<k)(hl:l.length≤9999)(ha:qy l) id:
  Gu k l id=some (bif decide (id∈l) then(l,6) else bif decide (200≤l.length) then(l,3) else(qz l id,0)):=by
 unfold Gu;rw[yU5 bK hl ha];by_cases hm:id∈l
 ·simp_all
 ·rw[ab hm];by_cases h:200≤l.length
  ·grind
  ·rw[ab h,ab (by grind)];have e2:qs k l=some l:=by
    unfold qs;rw[qF];rfl
   simp[e2,yK6];unfold idx;rw[qNz _ l id hl (by decide)];rfl
def la (l:AC):Int:=zQ (fun x=>x) l
def yi (x:Int):Bool:=decide (-9223372036854775808≤x)&&decide (x<9223372036854775808)
theorem yRi x:shr .i64 x 63=x/9223372036854775808:=by
 show x.fdiv (2^(min 63 64))=_;grind
theorem re x:IntKind.wrap .u64 x=x%18446744073709551616:=by
 rfl
theorem aai {x}(h:0≤x∧x<18446744073709551616):zA x=if x<9223372036854775808 then x else x-18446744073709551616:=by
 unfold zA IntKind.wrap;simp[IntKind.bits,IntKind.signed];grind
theorem vVx (l:AC) i (hi:i<l.length):la (l.take (i+1))=la (l.take i)+l.getD i 0:=by
 have:l.take (i+1)=l.take i++[l.getD i 0]:=by
  simp_all
 unfold la;rw[this,kU];simp[zQ]
theorem yD7 {k l}(hk:l.length<k)(hl:l.length≤1000000)(hw:∀i,i<l.length→-9223372036854775808≤l.getD i 0∧l.getD i 0<9223372036854775808):
  Gv k l=some (bif yi (la l) then(la l,true) else(0,false)):=by
 obtain ⟨s', g1, g2, g3, g4⟩ := vA (L := fun n i (s : Int × Int) => Gw k n s.1 s.2 l (l.length : Int) i) (N := l.length) (fun s => (s.1, s.2)) (fun i s => (0 ≤ s.2 ∧ s.2 < 18446744073709551616) ∧ s.1 * 18446744073709551616 + s.2 = la (l.take i) ∧ (-(i : Int) ≤ s.1 ∧ s.1 ≤ i)) (fun n s _=>by
  show Gx k _ s.1 s.2 l l.length l.length=_;unfold Gx;simp only [qZ, ab (Nat.lt_irrefl _), ak]) (fun n i s hi hs=>by
  obtain⟨h,lo⟩:=s;obtain⟨⟨h1,h2⟩,h3,h4⟩:=hs;simp only at h1 h2 h3 h4;show∃s',Gx k _ h lo l l.length i=_∧_;unfold Gx BY;have hb:=hw i hi;have hsn:=vVx l i hi;obtain⟨v,hv⟩:∃v,l.getD i 0=v:=⟨_,rfl⟩;rw[hv] at hb hsn;simp only[qZ,qB,ao,aa hi,ag,hv,re,yRi,decide_true,ae,qD hi (show l.length<9223372036854775808 by omega)];obtain⟨u,hu⟩:∃u,v%18446744073709551616=u:=⟨_,rfl⟩;rw[hu];obtain⟨q,hq⟩:∃q,v/9223372036854775808=q:=⟨_,rfl⟩;rw[hq];have sn:u=v-q*18446744073709551616:=by omega
  have pA:q=0∨q= -1:=by omega
  obtain⟨a,ha⟩:∃a:Nat,lo.toNat+u.toNat+0=a:=⟨_,rfl⟩;rw[ha];have si:(a:Int)=lo+u:=by omega
  obtain⟨c,hc⟩:∃c:Nat,a/18446744073709551616=c:=⟨_,rfl⟩;obtain⟨m,hm⟩:∃c:Nat,a%18446744073709551616=c:=⟨_,rfl⟩;rw[hc,hm];have hcm:a=c*18446744073709551616+m:=by omega
  have my:m<18446744073709551616:=by omega
  have mb:c≤1:=by omega
  have e1:zA (Int.ofNat c)=(c:Int):=zP (by show(_:Int)≤((c:Nat):Int);omega) (by show((c:Nat):Int)<_;omega);have e2:zA (q+(c:Int))=q+c:=zP;have e3:zA (h+(q+(c:Int)))=h+(q+c):=zP;rw[e1,e2,e3];refine⟨(h+(q+c),(m:Int)),rfl,by grind,?_,?_⟩
  ·rw[hsn];show(h+(q+c))*18446744073709551616+(m:Int)=_;omega
  ·show-((i+1:Nat):Int)≤h+(q+c)∧h+(q+c)≤((i+1:Nat):Int);omega) (s:=(0,0)) hk ⟨⟨by show(0:Int)≤0;omega,by show(0:Int)<_;omega⟩,rfl,by show-((0:Nat):Int)≤0;omega,by show(0:Int)≤((0:Nat):Int);omega⟩
 have Co:Gw k k 0 0 l (l.length:Int) 0=some (s'.1,s'.2):=g1;rw[List.take_length] at g3;unfold Gv;rw[Co];simp only[ae,yRi];rw[aai g2];by_cases c:yi (la l)=true
 ·have c':-9223372036854775808≤la l∧la l<9223372036854775808:=by simpa[yi] using c
  rw[c];by_cases d:s'.2<9223372036854775808
  ·rw[if_pos d,aa (show s'.1=s'.2/9223372036854775808 by omega)];simp only[aA,ak,ag];rw[show s'.2=la l by omega]
  ·rw[if_neg d,aa (show s'.1=(s'.2-18446744073709551616)/9223372036854775808 by omega)];simp only[aA,ak,ag];rw[show s'.2-18446744073709551616=la l by omega]
 ·have c':¬(-9223372036854775808≤la l∧la l<9223372036854775808):=by simpa[yi] using c
  rw[Bool.not_eq_true] at c;rw[c];by_cases d:s'.2<9223372036854775808
  ·rw[if_pos d,ab (show¬s'.1=s'.2/9223372036854775808 by omega)];rfl
  ·rw[if_neg d,ab (by grind)];rfl
theorem qT5 {x}(h:0≤x):yM .u64 x 4294967295=x%4294967296:=by
 obtain⟨n,rfl⟩:=Int.eq_ofNat_of_zero_le h;unfold yM tO;rw[re];have e1:(BitVec.ofInt IntKind.u64.bits (n:Int)&&&BitVec.ofInt IntKind.u64.bits 4294967295).toNat=n%4294967296:=by
  rw[BitVec.toNat_and,BitVec.toNat_ofInt,BitVec.toNat_ofInt];have e2:((4294967295:Int)%((2^IntKind.u64.bits:Nat):Int)).toNat=2^32-1:=by decide
  rw[e2,Nat.and_two_pow_sub_one_eq_mod];have e3:((n:Int)%((2^IntKind.u64.bits:Nat):Int)).toNat=n%18446744073709551616:=by
   rfl
  omega
 grind
theorem aaj x:shr .u64 x 32=x/4294967296:=by
 show x.fdiv (2^(min 32 64))=_;grind
theorem vO3 {a1 a0 b1 b0:Int}:(a1*4294967296+a0)*(b1*4294967296+b0)=a1*b1*18446744073709551616+(a1*b0+a0*b1)*4294967296+a0*b0:=by
 grind
theorem wP {a b A B:Int}(h0:0≤a)(h1:a≤A)(g0:0≤b)(g1:b≤B):0≤a*b∧a*b≤A*B:=
 ⟨Int.mul_nonneg h0 g0,Int.mul_le_mul h1 g1 g0 (by omega)⟩
theorem ySs (k:Nat){x y:Int}(hx:0≤x∧x<18446744073709551616)(hy:0≤y∧y<18446744073709551616):Gy k x y=some (x*y/18446744073709551616,x*y%18446744073709551616):=by
 unfold Gy;simp only[aaj,qT5 hx.1,qT5 hy.1,re];obtain⟨a1,h1⟩:∃a,x/4294967296=a:=⟨_,rfl⟩;obtain⟨a0,h0⟩:∃a,x%4294967296=a:=⟨_,rfl⟩;obtain⟨b1,g1⟩:∃a,y/4294967296=a:=⟨_,rfl⟩;obtain⟨b0,g0⟩:∃a,y%4294967296=a:=⟨_,rfl⟩;have hxe:x=a1*4294967296+a0:=by omega
 have hye:y=b1*4294967296+b0:=by omega
 rw[h1,h0,g1,g0];have Ra:0≤a1∧a1≤4294967295:=by omega
 have nR:0≤a0∧a0≤4294967295:=by omega
 have kb:0≤b1∧b1≤4294967295:=by omega
 have Rb:0≤b0∧b0≤4294967295:=by omega
 have p11:=wP Ra.1 Ra.2 kb.1 kb.2;have uC:=wP Ra.1 Ra.2 Rb.1 Rb.2;have p01:=wP nR.1 nR.2 kb.1 kb.2;have p00:=wP nR.1 nR.2 Rb.1 Rb.2;have QD:x*y=a1*b1*18446744073709551616+(a1*b0+a0*b1)*4294967296+a0*b0:=by rw[hxe,hye,vO3]
 rw[QD];generalize a1*b1=u at*
 generalize a1*b0=v at*
 generalize a0*b1=s at*
 generalize a0*b0=t at*
 have c1:(t%18446744073709551616)=t:=by omega
 have c2:(v%18446744073709551616+t/4294967296)%18446744073709551616=v+t/4294967296:=by omega
 rw[c1,c2];have L5:yM .u64 (v+t/4294967296) 4294967295=(v+t/4294967296)%4294967296:=qT5 (by omega);rw[L5];refine congrArg some (Prod.ext ?_ ?_)
 ·show _%_=_/_;omega
 ·rfl
theorem vVf k {x}(hx:0≤x∧x<18446744073709551616):Gz k 0 x 10000=some (x/10000,x%10000):=by
 unfold Gz;have e1:decide ((10000:Int)=0)=false:=rfl;have e2:decide ((10000:Int)≤0)=false:=rfl;simp[re];grind
def uU (price many cut:Int):Int:=price*many*(10000-cut)/10000
theorem yV3 {p m c}(hp:0≤p∧p≤1048576)(hm:0≤m∧m≤1099511627776)(hc:0≤c∧c≤10000):0≤uU p m c∧uU p m c≤1152921504606846976:=by
 have h1:=wP hp.1 hp.2 hm.1 hm.2;have h2:=wP h1.1 h1.2 (by grind) (show 10000-c≤10000 by omega);unfold uU;omega
theorem vOc k {p m c}(hp:0≤p∧p≤1048576)(hm:0≤m∧m≤1099511627776)(hc:0≤c∧c≤10000):GA k p m c=some (uU p m c,true):=by
 unfold GA L6;have w1:zA (10000-c)=10000-c:=zP;have e1:decide (p<0)=false:=ab;have e2:decide (m<0)=false:=ab;have e3:decide (c≥0)=true:=aa;have e4:decide (c≤10000)=true:=aa;have u1:p%18446744073709551616=p:=by omega
 have u2:m%18446744073709551616=m:=by omega
 have u3:(10000-c)%18446744073709551616=10000-c:=by omega
 have h1:=wP hp.1 hp.2 hm.1 hm.2;have hP:p*m/18446744073709551616=0:=by omega
 have hP2:p*m%18446744073709551616=p*m:=by omega
 have t0:Int.tmod 0 10000=0:=by simp
 have t1:Int.tdiv 0 10000=0:=by simp
 rw[e1,e2,e3,e4,ak,ak,ag,ae,aA,ak,re p,re m,u1,u2,ySs k (by grind) (by grind),ae,hP,hP2];dsimp only;rw[t0,t1,vVf k (by grind),ae];dsimp only;rw[w1,re (10000-c),u3];unfold uU;obtain⟨l,hl⟩:∃l,10000-c=l:=⟨_,rfl⟩;rw[hl];obtain⟨P,hPe⟩:∃P,p*m=P:=⟨_,rfl⟩;rw[hPe] at h1⊢;have dL:0≤l∧l≤10000:=by omega
 rw[ySs k (by grind) (by grind)];have hq:=wP (show 0≤P/10000 by omega) (show P/10000≤115292150460684 by omega) dL.1 dL.2;have hr:=wP (show 0≤P%10000 by omega) (show P%10000≤9999 by omega) dL.1 dL.2;have Cp:P*l=P/10000*l*10000+P%10000*l:=by
  grind
 rw[Cp];generalize P/10000*l=a at*
 generalize P%10000*l=b at*
 have v1:a/18446744073709551616=0:=by omega
 have v2:a%18446744073709551616=a:=by omega
 have v3:b%18446744073709551616=b:=by omega
 have v4:Int.tdiv b 10000=b/10000:=Int.tdiv_eq_ediv_of_nonneg hr.1;have v5:b/10000%18446744073709551616=b/10000:=by omega
 have ha:BY k a (b/10000) 0=some (a+b/10000,0):=by
  have n1:(Int.ofNat ((a.toNat+(b/10000).toNat+0)%18446744073709551616))=a+b/10000:=by rw[Int.ofNat_eq_natCast];omega
  have n2:(Int.ofNat ((a.toNat+(b/10000).toNat+0)/18446744073709551616))=0:=by rw[Int.ofNat_eq_natCast];omega
  unfold BY;rw[aa rfl,ag,n1,n2]
 rw[ae];dsimp only;rw[v1,v2,re b,v3,v4,re (b/10000),v5,ha,ae];dsimp only;have z1:IntKind.wrap .u64 0=0:=by rw[re];omega
 have z2:IntKind.wrap .u64 (0+0)=0:=by rw[re];omega
 have z5:zA (a+b/10000)=a+b/10000:=zP;grind
abbrev oz:=Int×Int
abbrev uV:oz:=(0,0)
def oC (sa:List oz)(pr h:AC)(i:Nat):Int:=uU (pr.getD i 0) (h.getD i 0) (sa.getD i uV).2
def gH (sa:List oz)(pr h:AC):Int:=qJ (oC sa pr h) sa.length
structure kq (sa:List oz) (pr h:AC):Prop where
 n3:sa.length≤3
 pl:pr.length=sa.length
 hl:h.length=sa.length
 cut:∀i,i<sa.length→0≤(sa.getD i uV).2∧(sa.getD i uV).2≤10000
 price:∀i,i<sa.length→0≤pr.getD i 0∧pr.getD i 0≤1048576
 hold:∀i,i<sa.length→0≤h.getD i 0∧h.getD i 0≤1099511627776
theorem L7 {sa pr h}(L:kq sa pr h){i}(hi:i<sa.length):0≤oC sa pr h i∧oC sa pr h i≤1152921504606846976:=yV3 (L.price i hi) (L.hold i hi) (L.cut i hi)
theorem qQb g:∀n,la ((List.range n).map g)=qJ g n
 |0=>rfl
 |n+1=>by
  rw[List.range_succ,List.map_append];unfold la;rw[kU];have:=qQb g n;unfold la at this;rw[this];show qJ g n+(g n+0)=qJ g n+g n;omega
theorem Rc {g A}:∀{n},(∀j,j<n→0≤g j∧g j≤A)→0≤qJ g n∧qJ g n≤n*A
 |0,_=>by simp[qJ]
 |n+1,h=>by
  have h1:=Rc (n:=n) (fun j hj=>h j (by omega));have h2:=h n (by omega);have h3:((n+1:Nat):Int)*A=n*A+A:=by grind
  show 0≤qJ g n+g n∧qJ g n+g n≤_;omega
theorem vVz {k:Nat}{sa:List oz}{pr h:AC}(L:kq sa pr h)(hk:10≤k):rf k k pr h sa sa.length 0 []=some (.inl ((List.range sa.length).map (oC sa pr h))):=by
 have hn:=L.n3;obtain ⟨s', h1, h2⟩ := vA (L := fun n i (s : AC) => rf k n pr h sa sa.length i s) (N := sa.length) (fun s => .inl s) (fun i s => s = (List.range i).map (oC sa pr h)) (fun n s _=>by
  show td k _ pr h sa sa.length sa.length s=_;unfold td;simp only [qZ, ab (Nat.lt_irrefl _), ak]) (fun n i s hi hs=>by
  refine⟨s++[oC sa pr h i],?_,?_⟩
  ·show td k _ pr h sa sa.length i s=_;unfold td;have dP:s.length≤3:=by rw[hs,List.length_map,List.length_range];omega
   have hw:=vOc k (L.price i hi) (L.hold i hi) (L.cut i hi);simp only[qZ,qB,ao,aa hi,aa (show i<pr.length by rw[L.pl];exact hi),aa (show i<h.length by rw[L.hl];exact hi),ag,qD hi (show sa.length<9223372036854775808 by omega)];rw[hw];simp only[ae,aA,ak,qF (show(s.length+1)*8≤140737488355328 by omega) (show s.length+1≤140737488355328 by omega),ag];rfl
  ·rw[hs,List.range_succ,List.map_append];rfl) (s:=[]) (show sa.length<k by omega) rfl
 have fa:rf k k pr h sa sa.length 0 []=_:=h1;rw[fa,h2]
theorem yDz {k sa pr h}(L:kq sa pr h)(hk:10≤k):nv k sa pr h=some (gH sa pr h,true):=by
 have hn:=L.n3;have hb:=Rc (g:=oC sa pr h) (n:=sa.length) (fun j hj=>L7 L hj);unfold nv;have e1:decide ((pr.length:Int)=(sa.length:Int))=true:=aa (by rw[L.pl]);have e2:decide ((h.length:Int)=(sa.length:Int))=true:=aa (by rw[L.hl]);simp[e1,e2];rw[vVz L hk];simp;rw [yD7 (by grind) (by grind) (fun i hi=>by
  rw[List.length_map,List.length_range] at hi;have:=L7 L hi;grind)]
 rw[qQb];have e3:yi (qJ (oC sa pr h) sa.length)=true:=by
  unfold yi;grind
 rw[e3];rfl
theorem GB {sa pr h}(L:kq sa pr h):0≤gH sa pr h:=(Rc (g:=oC sa pr h) (n:=sa.length) (fun j hj=>L7 L hj)).1
theorem yNm {k l}(hl:l.length≤9999){i}(h0:0≤i)(h1:i<l.length) v:rj k l i v=some (l.set i.toNat v):=by
 unfold rj;have e2:qs k l=some l:=by
  unfold qs;rw[qF];rfl
 simp[e2,aa (show i≥0 by omega),aa h1,ag,wT h0 h1]
theorem Re {a b m p l r}(hb:jA a b m p)(h:sY a b m p l r):
  qJ (fun i=>(r.1.getD i ad).1) a.length=qJ (fun i=>(a.getD i ad).1) a.length∧jA r.1 r.2.1 r.2.2.1 r.2.2.2.1∧(r.2.2.2.2=0∨(r.1=a∧r.2.1=b∧r.2.2.1=m∧r.2.2.2.1=p)):=by
 by_cases c:wH a.length l
 ·obtain⟨a',p',x,e⟩:=h.1 c;cases hi:kY a' b m p' with
  |false=>
   simp_all
  |true=>
   rw[hi] at e;subst e;refine⟨?_,Ft.1 hi,.inl rfl⟩;have e1:qJ (fun i=>(a'.getD i ad).1) a.length=qJ (fun i=>(a.getD i ad).1+zQ (gB i) l) a.length:=sW fun j hj=>by rw[x.acct j hj]
   show qJ (fun i=>(a'.getD i ad).1) a.length=_;rw[e1,EV,P4];have e2:zQ (fun p=>qJ (fun j=>gB j p) a.length) l=zQ (fun _=>(0:Int)) l:=P3 fun p hp=>by
    obtain⟨f0,f1,t0,t1,ne,a1,a2,c1,c3⟩:=c.1 p hp;obtain⟨f,hf⟩:∃f:Nat,p.2.1=f:=⟨p.2.1.toNat,by omega⟩;obtain⟨t,ht⟩:∃t:Nat,p.2.2.1=t:=⟨p.2.2.1.toNat,by omega⟩;have g1:∀j,gB j p=(if j=t then p.2.2.2.1 else 0)+(if j=f then-p.2.2.2.1 else 0):=by
     unfold gB;omega
    rw[sW fun j _=>g1 j,EV,B2,B2,if_pos (by omega),if_pos (by omega)];omega
   have e3:∀l:List zJ,zQ (fun _:zJ=>(0:Int)) l=0:=by
    intro l
    induction l with
    |nil=>rfl
    |cons p l ih=>show 0+zQ _ l=0;omega
   simp_all
 ·have e:=h.2 c;simp_all
abbrev BT:=List yG×EQ×AC×EQ
def qX (B:BT):Prop:=jA B.1 B.2.1 B.2.2.1 B.2.2.2
theorem GC {k}(hk:100<k){B}(h:qX B){l:List zJ}(hl:l.length≤80):
  ∃r,qu k B.1 B.2.1 B.2.2.1 B.2.2.2 l=some r∧Cb k B.1 B.2.1 B.2.2.1 B.2.2.2 l=some r∧sY B.1 B.2.1 B.2.2.1 B.2.2.2 l r:=by
 obtain⟨r,h1,h2⟩:=QE hk h hl;obtain⟨r',h3,h4⟩:=vSg hk h hl;have:=h2.same h4;simp_all
def yj (B:BT)(l:List zJ):Bool:=ye B.1 B.2.1 B.2.2.1 B.2.2.2 l
def iH (k:Nat)(B:BT)(l:List zJ):Option BT:=match qu k B.1 B.2.1 B.2.2.1 B.2.2.2 l with
 |some r=>bif decide (r.2.2.2.2=0)&&yj B l then some (r.1,r.2.1,r.2.2.1,r.2.2.2.1) else none
 |none=>none
theorem tf {k}(hk:100<k){B C}(h:qX B){l}(hl:l.length≤80)(hg:iH k B l=some C):qX C∧C.1.length=B.1.length:=by
 obtain⟨r,h1,h2,h3⟩:=GC hk h hl;unfold iH at hg;rw[h1] at hg;simp only at hg;cases hc:decide (r.2.2.2.2=0)&&yj B l with
 |false=>
  simp_all
 |true=>
  rw[hc] at hg;simp  at hg;subst hg;refine⟨(Re h h3).2.1,?_⟩;by_cases c:wH B.1.length l
  ·obtain⟨a',p',x,e⟩:=h3.1 c;cases hi:kY a' B.2.1 B.2.2.1 p' with
   |false=>simp_all
   |true=>rw[hi] at e;subst e;exact x.al
  ·rw[h3.2 c]
def fZ (k:Nat)(B:BT):List zJ→Option (zJ×BT)
 |[]=>none
 |p::l=>match iH k B [p] with
  |some C=>some (p,C)
  |none=>fZ k B l
theorem Cq {k B C p}:∀{l},fZ k B l=some (p,C)→p∈l∧iH k B [p]=some C
 |q::l,h=>by
  unfold fZ at h;cases hg:iH k B [q] with
  |some D=>
   simp_all
  |none=>
   rw[hg] at h;have:=Cq h;simp_all
theorem yMo k B {m:List zJ}{i}(hi:i<m.length):fZ k B (m.drop i)=match iH k B [m.getD i pd] with
  |some C=>some (m.getD i pd,C)
  |none=>fZ k B (m.drop (i+1)):=by
 rw[List.drop_eq_getElem_cons hi];have e:m.getD i pd=m[i]:=by simp_all
 rw[e];rfl
theorem Rf l t:(wM l t).length≤l.length:=Nat.le_trans (List.length_filter_le _ _) (by grind)
theorem aak m i (hi:i<m.length):qS m (0+i) (i+1-i)=[m.getD i pd]:=by
 unfold qS;rw[Nat.zero_add,show i+1-i=1 by omega,List.drop_eq_getElem_cons hi,bT,List.getElem?_eq_getElem hi];rfl
def fj (l:List zJ)(id:Int):List zJ:=(iG l id).1
theorem uW {l p}(h:p∈l):(fj l p.1).length+1=l.length∧List.Sublist (fj l p.1) l:=by
 obtain⟨x,hx⟩:=Q0 h;unfold fj iG;rw[hx];have:=(kZ hx).1;refine⟨?_,uT l x⟩;rw[ou this];omega
theorem GD {l t p}(h:p∈wM l t):p∈l:=(List.mem_filter.1 (List.mem_filter.1 h).1).1
inductive g9 (k:Nat) (t:Int):BT→List zJ→List zJ→BT→List zJ→Prop
 |stop {B:BT} {l:List zJ} (h:fZ k B (wM l t)=none):g9 k t B l [] B l
 |step {B C D:BT} {l m done:List zJ} {p:zJ} (h:fZ k B (wM l t)=some (p,C)) (h':g9 k t C (fj l p.1) done D m):g9 k t B l (p::done) D m
theorem yM2 {k}(hk:100<k){B}(h:qX B){l:List zJ}(hl:l.length≤80):Cg k B.1 B.2.1 B.2.2.1 B.2.2.2 l=some (yj B l):=ZV hk h hl
theorem vBi {k}(hk:100<k){B}(h:qX B)(m:List zJ)(hm:m.length≤9999):∀c i n,i+c=m.length→c<n→
  L8 k n m.length i B.1 B.2.1 B.2.2.1 B.2.2.2 0 0 0 0 0 0 0 m = some (match fZ k B (m.drop i) with
   |some (p,C)=>.inr (true,p.1,p.2.1,p.2.2.1,p.2.2.2.1,p.2.2.2.2.1,p.2.2.2.2.2.1,p.2.2.2.2.2.2,C.1,C.2.1,C.2.2.1,C.2.2.2)
   |none=>.inl (B.1,B.2.1,B.2.2.1,B.2.2.2,0,0,0,0,0,0,0))
 |0,i,n,e,hn=>by
  obtain⟨n,rfl⟩:∃x,n=x+1:=⟨n-1,by omega⟩;have:i=m.length:=by omega
  subst this;show GG k _ m.length m.length B.1 B.2.1 B.2.2.1 B.2.2.2 0 0 0 0 0 0 0 m=_;unfold GG;simp;rfl
 |c+1,i,n,e,hn=>by
  obtain⟨n,rfl⟩:∃x,n=x+1:=⟨n-1,by omega⟩;have hi:i<m.length:=by omega
  have ih:=vBi hk h m hm c (i+1) n (by omega) (by omega);show GG k _ m.length i B.1 B.2.1 B.2.2.1 B.2.2.2 0 0 0 0 0 0 0 m=_;unfold GG;obtain⟨r,h1,h2,h3⟩:=GC hk h (l:=[m.getD i pd]) (by simp);have hf:=yM2 hk h (l:=[m.getD i pd]) (by simp);simp[qB,qD hi (by grind)];rw[yMo k B hi];unfold iH;grind
def yL1 (B:BT)(x:Option (zJ×BT)):Int×Int×Int×Int×Int×Int×Int×(List (Int×Int×Int))×EQ×AC×EQ×Bool:=match x with
 |some (p,C)=>(p.1,p.2.1,p.2.2.1,p.2.2.2.1,p.2.2.2.2.1,p.2.2.2.2.2.1,p.2.2.2.2.2.2,C.1,C.2.1,C.2.2.1,C.2.2.2,true)
 |none=>(0,0,0,0,0,0,0,B.1,B.2.1,B.2.2.1,B.2.2.2,false)
theorem aal {k}(hk:100<k){B}(h:qX B){l}(bK:l.length<k)(hl:yB l)(hd:qP l) t:Rg k B.1 B.2.1 B.2.2.1 B.2.2.2 l t=some (yL1 B (fZ k B (wM l t))):=by
 unfold Rg;rw[vKz bK hl hd];have GH:=Rf l t;unfold yB at hl;have:=vBi hk h (wM l t) (by omega) (wM l t).length 0 k (by omega) (by omega);have e:((0:Nat):Int)=0:=rfl;rw[e,List.drop_zero] at this;simp;rw[this];cases fZ k B (wM l t) with
 |none=>rfl
 |some x=>rfl
theorem yZ3 {k}(hk:100<k) t:∀n B (l r:List zJ),qX B→qP l→l.length≤100→l.length<n→r.length+l.length≤9999→
  ∃(C:BT) (m done:List zJ),L9 k n t l B.1 B.2.1 B.2.2.1 B.2.2.2 r=some (m,C.1,C.2.1,C.2.2.1,C.2.2.2,r++done)∧g9 k t B l done C m∧qX C∧C.1.length=B.1.length∧List.Sublist m l
 |n+1,B,l,r,hb,hd,hl,hn,hr=>by
  have h1:=aal hk hb (l:=l) (by omega) (by show l.length≤9999;omega) hd t;cases hx:fZ k B (wM l t) with
  |none=>
   rw[hx] at h1;refine⟨B,l,[],?_,.stop hx,hb,rfl,by simp⟩;show GI k _ t l B.1 B.2.1 B.2.2.1 B.2.2.2 r=_;unfold GI;rw[h1];simp only[ae,yL1,bO,ag,List.append_nil]
  |some x=>
   obtain⟨p,C⟩:=x;rw[hx] at h1;obtain⟨hp,hg⟩:=Cq hx;have En:=GD hp;obtain⟨ua,nT⟩:=uW En;obtain⟨oe,dq⟩:=tf hk hb (by simp) hg;obtain⟨D,m,done,g1,g3,g4,g5,g6⟩:=yZ3 hk t n C (fj l p.1) (r++[p]) oe (List.Pairwise.sublist nT hd) (by omega) (by omega) (by grind);refine⟨D,m,p::done,?_,.step hx g3,g4,by grind,g6.trans nT⟩;show GI k _ t l B.1 B.2.1 B.2.2.1 B.2.2.2 r=_;unfold GI;rw[h1];simp[Cm (show l.length<k by omega) (show yB l by show l.length≤9999;omega),ot (show r.length≤9999 by omega)];rw[List.append_cons r p done,←g1];rfl
theorem aam {k}(hk:200≤k){B}(hb:qX B){l}(hd:qP l)(hl:l.length≤100) t:
  ∃(C:BT) (m done:List zJ),Rh k B.1 B.2.1 B.2.2.1 B.2.2.2 l t=some (C.1,C.2.1,C.2.2.1,C.2.2.2,m,done)∧g9 k t B l done C m∧qX C∧C.1.length=B.1.length∧List.Sublist m l:=by
 obtain⟨C,m,done,h1,h3⟩:=yZ3 (show 100<k by omega) t k B l [] hb hd hl (by omega) (by grind);refine⟨C,m,done,?_,h3⟩;unfold Rh;simp_all
def rp (p q:zJ):Bool:=decide (q.2.1=p.2.2.1)&&(decide (q.2.2.1=p.2.1)&& !decide (p.2.1≥q.2.1))
def pB (k:Nat)(B:BT)(p:zJ):List zJ→Option (zJ×BT)
 |[]=>none
 |q::l=>match(bif rp p q then iH k B [p,q] else none) with
  |some C=>some (q,C)
  |none=>pB k B p l
def tg (k:Nat)(B:BT)(m:List zJ):List zJ→Option (zJ×zJ×BT)
 |[]=>none
 |p::l=>match pB k B p m with
  |some (q,C)=>some (p,q,C)
  |none=>tg k B m l
theorem qW2 {k B C p q}:∀{l},pB k B p l=some (q,C)→q∈l∧rp p q=true∧iH k B [p,q]=some C
 |r::l,h=>by
  unfold pB at h;cases hd:rp p r with
  |false=>
   rw[hd] at h;have:=qW2 (l:=l) h;simp_all
  |true=>
   rw[hd] at h;cases hg:iH k B [p,r] with
   |some D=>
    simp_all
   |none=>
    rw[hg] at h;have:=qW2 (l:=l) h;simp_all
theorem Ri {k B C p q m}:∀{l},tg k B m l=some (p,q,C)→p∈l∧q∈m∧rp p q=true∧iH k B [p,q]=some C
 |r::l,h=>by
  unfold tg at h;cases hq:pB k B r m with
  |some x=>
   rw[hq] at h;cases h;exact⟨by simp,qW2 hq⟩
  |none=>
   rw[hq] at h;have:=Ri (l:=l) h;simp_all
theorem yY0 {α:Type}{l:List α}{i} h d:l.getD i d=l[i]:=by
 simp_all
theorem vLn k B p {m:List zJ}{i}(hi:i<m.length):pB k B p (m.drop i)=match(bif rp p (m.getD i pd) then iH k B [p,m.getD i pd] else none) with
  |some C=>some (m.getD i pd,C)
  |none=>pB k B p (m.drop (i+1)):=by
 rw[List.drop_eq_getElem_cons hi,yY0 hi];rfl
theorem yVd k B r {m:List zJ}{i}(hi:i<m.length):tg k B r (m.drop i)=match pB k B (m.getD i pd) r with
  |some (q,C)=>some (m.getD i pd,q,C)
  |none=>tg k B r (m.drop (i+1)):=by
 rw[List.drop_eq_getElem_cons hi,yY0 hi];rfl
def fR (k:Nat)(B:BT)(l:List zJ)(t:Int):Option (zJ×zJ×BT):=tg k B (wM l t) (wM l t)
theorem aan {l x q}(hx:x<l.length)(h:q∈l)(bx:q≠l.getD x pd):q∈yN l x:=by
 unfold yN;have e:=QZ l x pd hx;grind
theorem qP.eq_of {l}(h:qP l){p q}(hp:p∈l)(hq:q∈l)(e:p.1=q.1):p=q:=by
 obtain⟨i,hi,ei⟩:=List.getElem_of_mem hp;obtain⟨j,hj,ej⟩:=List.getElem_of_mem hq;have hl:=List.pairwise_iff_getElem.1 h;grind
theorem qX7 {l p q}(hp:p∈l)(hq:q∈l)(bx:q.1≠p.1):q∈fj l p.1:=by
 obtain⟨x,hx⟩:=Q0 hp;unfold fj iG;rw[hx];have:=kZ hx;exact aan this.1 hq (by grind)
def Cr (l:List zJ)(p q:zJ):List zJ:=fj (fj l p.1) q.1
theorem GJ {k B C l t p q}(h:fR k B l t=some (p,q,C)):p∈l∧q∈l∧rp p q=true∧iH k B [p,q]=some C:=by
 obtain⟨h1,h2,h3⟩:=Ri h;exact⟨GD h1,GD h2,h3⟩
theorem yTh {l}(hd:qP l){p q}(hp:p∈l)(hq:q∈l)(h:rp p q=true):q.1≠p.1:=by
 intro e;have:=hd.eq_of hq hp e;subst this;unfold rp at h;simp at h
theorem GK {l}(hd:qP l){p q}(hp:p∈l)(hq:q∈l)(h:rp p q=true):(Cr l p q).length+2=l.length∧List.Sublist (Cr l p q) l:=by
 obtain⟨h1,h2⟩:=uW hp;obtain⟨h3,h4⟩:=uW (qX7 hp hq (yTh hd hp hq h));unfold Cr;exact⟨by omega,h4.trans h2⟩
inductive ek (k:Nat) (t:Int):BT→List zJ→List zJ→BT→List zJ→Prop
 |stop {B:BT} {l:List zJ} (h:fR k B l t=none):ek k t B l [] B l
 |step {B C D:BT} {l m done:List zJ} {p q:zJ} (h:fR k B l t=some (p,q,C)) (h':ek k t C (Cr l p q) done D m):ek k t B l (p::q::done) D m
theorem ek.length {k t B C l done m}(h:ek k t B l done C m)(hd:qP l):done.length+m.length=l.length∧done.length%2=0:=by
 induction h with
 |stop _=>simp
 |step h _ ih=>
  obtain⟨hp,hq,pC,_⟩:=GJ h;obtain⟨h1,h2⟩:=GK hd hp hq pC;have:=ih (List.Pairwise.sublist h2 hd);grind
theorem ek.sub {k t B C l done m}(h:ek k t B l done C m)(hd:qP l):List.Sublist m l:=by
 induction h with
 |stop _=>simp
 |step h _ ih=>
  obtain⟨hp,hq,pC,_⟩:=GJ h;obtain⟨h1,h2⟩:=GK hd hp hq pC;exact(ih (List.Pairwise.sublist h2 hd)).trans h2
theorem vGe {k}(hk:100<k){B}(h:qX B)(m:List zJ)(hm:m.length≤9999) p cQ cN:∀c i n,i+c=m.length→c<n→
  Ma k n cQ cN m.length i B.1 B.2.1 B.2.2.1 B.2.2.2 0 0 0 0 0 0 0 0 0 0 0 0 0 0 m p.1 p.2.1 p.2.2.1 p.2.2.2.1 p.2.2.2.2.1 p.2.2.2.2.2.1 p.2.2.2.2.2.2 = some (match pB k B p (m.drop i) with
   |some (q,C)=>.inr (true,p.1,p.2.1,p.2.2.1,p.2.2.2.1,p.2.2.2.2.1,p.2.2.2.2.2.1,p.2.2.2.2.2.2,q.1,q.2.1,q.2.2.1,q.2.2.2.1,q.2.2.2.2.1,q.2.2.2.2.2.1,q.2.2.2.2.2.2,C.1,C.2.1,C.2.2.1,C.2.2.2)
   |none=>.inl (cQ,cN,B.1,B.2.1,B.2.2.1,B.2.2.2,0,0,0,0,0,0,0,0,0,0,0,0,0,0,m))
 |0,i,n,e,hn=>by
  obtain⟨n,rfl⟩:∃x,n=x+1:=⟨n-1,by omega⟩;have:i=m.length:=by omega
  subst this;show GL k _ cQ cN m.length m.length B.1 B.2.1 B.2.2.1 B.2.2.2 0 0 0 0 0 0 0 0 0 0 0 0 0 0 m p.1 p.2.1 p.2.2.1 p.2.2.2.1 p.2.2.2.2.1 p.2.2.2.2.2.1 p.2.2.2.2.2.2=_;unfold GL;simp;rfl
 |c+1,i,n,e,hn=>by
  obtain⟨n,rfl⟩:∃x,n=x+1:=⟨n-1,by omega⟩;have hi:i<m.length:=by omega
  have ih:=vGe hk h m hm p cQ cN c (i+1) n (by omega) (by omega);show GL k _ cQ cN m.length i B.1 B.2.1 B.2.2.1 B.2.2.2 0 0 0 0 0 0 0 0 0 0 0 0 0 0 m p.1 p.2.1 p.2.2.1 p.2.2.2.1 p.2.2.2.2.1 p.2.2.2.2.2.1 p.2.2.2.2.2.2=_;unfold GL;obtain⟨r,h1,h2,h3⟩:=GC hk h (l:=[p,m.getD i pd]) (by simp);have hf:=yM2 hk h (l:=[p,m.getD i pd]) (by simp);have fa:qu k B.1 B.2.1 B.2.2.1 B.2.2.2 [(p.1,p.2.1,p.2.2.1,p.2.2.2.1,p.2.2.2.2.1,p.2.2.2.2.2.1,p.2.2.2.2.2.2),m.getD i (0,(0,(0,(0,(0,(0,0))))))]=some r:=h1;have eu:Cg k B.1 B.2.1 B.2.2.1 B.2.2.2 [(p.1,p.2.1,p.2.2.1,p.2.2.2.1,p.2.2.2.2.1,p.2.2.2.2.2.1,p.2.2.2.2.2.2),m.getD i (0,(0,(0,(0,(0,(0,0))))))]=some (yj B [p,m.getD i pd]):=hf;simp only[qB,qD hi (by grind),qZ,ao,aa hi];rw[vLn k B p hi];unfold rp;cases decide ((m.getD i pd).2.1=p.2.2.1) with
  |false=>exact ih
  |true=>
   cases decide ((m.getD i pd).2.2.1=p.2.1) with
   |false=>exact ih
   |true=>
    cases decide (p.2.1≥(m.getD i pd).2.1) with
    |true=>exact ih
    |false=>
     unfold iH;grind
theorem yTv {k}(hk:100<k){B}(h:qX B)(m:List zJ)(hm:m.length≤9999)(Mb:m.length<k):∀c i n,i+c=m.length→c<n→
  Md k n m.length i B.1 B.2.1 B.2.2.1 B.2.2.2 0 0 0 0 0 0 0 0 0 0 0 0 0 0 m = some (match tg k B m (m.drop i) with
   |some (p,q,C)=>.inr (true,p.1,p.2.1,p.2.2.1,p.2.2.2.1,p.2.2.2.2.1,p.2.2.2.2.2.1,p.2.2.2.2.2.2,q.1,q.2.1,q.2.2.1,q.2.2.2.1,q.2.2.2.2.1,q.2.2.2.2.2.1,q.2.2.2.2.2.2,C.1,C.2.1,C.2.2.1,C.2.2.2)
   |none=>.inl (0,0,0,0,0,0,0,0,0,0,0,0,0,0))
 |0,i,n,e,hn=>by
  obtain⟨n,rfl⟩:∃x,n=x+1:=⟨n-1,by omega⟩;have:i=m.length:=by omega
  subst this;show GM k _ m.length m.length B.1 B.2.1 B.2.2.1 B.2.2.2 0 0 0 0 0 0 0 0 0 0 0 0 0 0 m=_;unfold GM;simp;rfl
 |c+1,i,n,e,hn=>by
  obtain⟨n,rfl⟩:∃x,n=x+1:=⟨n-1,by omega⟩;have hi:i<m.length:=by omega
  have ih:=yTv hk h m hm Mb c (i+1) n (by omega) (by omega);show GM k _ m.length i B.1 B.2.1 B.2.2.1 B.2.2.2 0 0 0 0 0 0 0 0 0 0 0 0 0 0 m=_;unfold GM;have gC:=vGe hk h m hm (m.getD i pd) m.length i m.length 0 k (by omega) Mb;have e0:((0:Nat):Int)=0:=rfl;rw[e0,List.drop_zero] at gC;simp only[qB,qZ,ao,aa hi];rw[gC];rw[yVd k B m hi];cases pB k B (m.getD i (0,(0,(0,(0,(0,(0,0))))))) m with
  |none=>
   simp[qD hi (by grind)];exact ih
  |some x=>rfl
def qQd (x:Option (zJ×zJ×BT)):Int×Int×Int×Int×Int×Int×Int×Int×Int×Int×Int×Int×Int×Int×(List (Int×Int×Int))×EQ×AC×EQ×Bool:=match x with
 |some (p,q,C)=>(p.1,p.2.1,p.2.2.1,p.2.2.2.1,p.2.2.2.2.1,p.2.2.2.2.2.1,p.2.2.2.2.2.2,q.1,q.2.1,q.2.2.1,q.2.2.2.1,q.2.2.2.2.1,q.2.2.2.2.2.1,q.2.2.2.2.2.2,C.1,C.2.1,C.2.2.1,C.2.2.2,true)
 |none=>(0,0,0,0,0,0,0,0,0,0,0,0,0,0,[],[],[],[],false)
theorem vZi {k}(hk:100<k){B}(h:qX B){l}(bK:l.length<k)(hl:yB l)(hd:qP l) t:Rj k B.1 B.2.1 B.2.2.1 B.2.2.2 l t=some (qQd (fR k B l t)):=by
 unfold Rj fR;rw[vKz bK hl hd];have GH:=Rf l t;unfold yB at hl;have:=yTv hk h (wM l t) (by omega) (by omega) (wM l t).length 0 k (by omega) (by omega);have e:((0:Nat):Int)=0:=rfl;rw[e,List.drop_zero] at this;simp;rw[this];cases tg k B (wM l t) (wM l t) with
 |none=>rfl
 |some x=>rfl
theorem vXk {k}(hk:3≤k) t (l:List zJ)(hl:l.length≤9999)(uB:l.length<k)(C:BT)(r:List zJ)(hr:r.length≤900)(p q:zJ):
  yk k k t l 2 0 C.1 C.2.1 C.2.2.1 C.2.2.2 r [p,q]=some (t,Cr l p q,C.1,C.2.1,C.2.2.1,C.2.2.2,r++[p,q]):=by
 obtain⟨n,rfl⟩:∃n,k=n+3:=⟨k-3,by omega⟩;have h1:=Cm uB (show yB l from hl) p.1;have ua:(fj l p.1).length≤l.length:=by
  unfold fj iG;cases hp:vX l p.1 with
  |none=>simp
  |some x=>exact List.Sublist.length_le (uT l x)
 have h2:=Cm (k:=n+3) (l:=fj l p.1) (by omega) (show(fj l p.1).length≤9999 by omega) q.1;have e1:zL (r.length+1) 56=true:=ot (by omega);have e2:zL ((r++[p]).length+1) 56=true:=ot (by grind);show yl (n+3) (yk (n+3) (n+2)) t l 2 0 C.1 C.2.1 C.2.2.1 C.2.2.2 r [p,q]=_;unfold yl;have g0:[p,q].getD (Int.toNat 0) (0,(0,(0,(0,(0,(0,0))))))=p:=rfl;have b0:zB 0 [p,q].length=true:=rfl;have d0:decide ((0:Int)<2)=true:=rfl;have w0:zA (0+1)=1:=by decide
 rw[d0,b0,g0,h1];simp[e1];show yl (n+3) (yk (n+3) (n+1)) t (fj l p.1) 2 1 C.1 C.2.1 C.2.2.1 C.2.2.2 (r++[p]) [p,q]=_;unfold yl;have g1:[p,q].getD (Int.toNat 1) (0,(0,(0,(0,(0,(0,0))))))=q:=rfl;have b1:zB 1 [p,q].length=true:=rfl;have d1:decide ((1:Int)<2)=true:=rfl;have w1:zA (1+1)=2:=by decide
 rw[d1,b1,g1,h2];simp only[e2];show yl (n+3) (yk (n+3) n) t (Cr l p q) 2 2 C.1 C.2.1 C.2.2.1 C.2.2.2 (r++[p]++[q]) [p,q]=_;unfold yl;simp
theorem yMk {k}(hk:100<k) t:∀n B (l r:List zJ),qX B→qP l→l.length≤100→l.length<n→r.length+l.length≤900→
  ∃(C:BT) (m done:List zJ),Me k n t l B.1 B.2.1 B.2.2.1 B.2.2.2 r=some (m,C.1,C.2.1,C.2.2.1,C.2.2.2,r++done)∧ek k t B l done C m∧qX C∧C.1.length=B.1.length∧List.Sublist m l
 |n+1,B,l,r,hb,hd,hl,hn,hr=>by
  have h1:=vZi hk hb (l:=l) (by omega) (by show l.length≤9999;omega) hd t;cases hx:fR k B l t with
  |none=>
   rw[hx] at h1;refine⟨B,l,[],?_,.stop hx,hb,rfl,by simp⟩;show GN k _ t l B.1 B.2.1 B.2.2.1 B.2.2.2 r=_;unfold GN;rw[h1];simp only[ae,qQd,bO,ag,List.append_nil]
  |some x=>
   obtain⟨p,q,C⟩:=x;obtain⟨hp,hq,pC,hg⟩:=GJ hx;obtain⟨ua,nT⟩:=GK hd hp hq pC;obtain⟨oe,dq⟩:=tf hk hb (by simp) hg;obtain⟨D,m,done,g1,g3,g4,g5,g6⟩:=yMk hk t n C (Cr l p q) (r++[p,q]) oe (List.Pairwise.sublist nT hd) (by omega) (by omega) (by grind);refine⟨D,m,p::q::done,?_,.step hx g3,g4,by grind,g6.trans nT⟩;show GN k _ t l B.1 B.2.1 B.2.2.1 B.2.2.2 r=_;unfold GN;rw[h1];have hL:=vXk (k:=k) (by omega) t l (by omega) (by omega) C r (by omega) p q;simp only[qQd,ak];simp_all
theorem aao {k}(hk:200≤k){B}(hb:qX B){l}(hd:qP l)(hl:l.length≤100) t:
  ∃(C:BT) (m done:List zJ),Rk k B.1 B.2.1 B.2.2.1 B.2.2.2 l t=some (C.1,C.2.1,C.2.2.1,C.2.2.2,m,done)∧ek k t B l done C m∧qX C∧C.1.length=B.1.length∧List.Sublist m l:=by
 obtain⟨C,m,done,h1,h3⟩:=yMk (show 100<k by omega) t k B l [] hb hd hl (by omega) (by grind);refine⟨C,m,done,?_,h3⟩;unfold Rk;simp_all
def ez (l:List zJ)(f:Int):Nat:=(l.filter (jE f)).length
def th (l:List zJ)(many:AC)(i:Nat):Bool:=
 (decide ((l.getD i pd).2.1≥0)&&decide ((l.getD i pd).2.1<(many.length:Int)))&&decide (((ez (l.take i) (l.getD i pd).2.1:Nat):Int)<many.getD (l.getD i pd).2.1.toNat 0)
def nx (l:List zJ)(many:AC):Nat→List zJ
 |0=>[]
 |i+1=>nx l many i++(bif th l many i then[l.getD i pd] else[])
def vM (l:List zJ)(many:AC):List zJ:=nx l many l.length
theorem vC7 l many:∀N,N≤l.length→List.Sublist (nx l many N) (l.take N)
 |0,_=>by simp[nx]
 |N+1,h=>by
  rw[←fE l N pd h];apply List.Sublist.append (vC7 l many N (by omega));grind
theorem ym l many:List.Sublist (vM l many) l:=by
 have:=vC7 l many l.length (by simp)
 rwa [List.take_length] at this
def uX (v w:AC):Prop:=v.length=w.length∧∀i,i<w.length→v.getD i 0≤w.getD i 0
def eS (B:BT)(l:List zJ):AC:=uR B.1 B.2.1 B.2.2.1 B.2.2.2 l
def fk (s:AC)(m:AC):AC:=s.foldl (fun m i=>m.set i.toNat (m.getD i.toNat 0-1)) m
theorem uY:∀s m,(fk s m).length=m.length
 |[],_=>rfl
 |i::s,m=>by
  show(fk s (m.set i.toNat (m.getD i.toNat 0-1))).length=_;rw[uY s,List.length_set]
theorem yKb:∀(s:List Nat) m,s.Nodup→(∀i∈s,i<m.length)→∀j,(fk (s.map fun(x:Nat)=>(x:Int)) m).getD j 0=m.getD j 0-(if j∈s then 1 else 0)
 |[],m,_,_,j=>by simp[fk]
 |i::s,m,hs,hi,j=>by
  show(fk (s.map fun(x:Nat)=>(x:Int)) (m.set ((i:Int)).toNat (m.getD ((i:Int)).toNat 0-1))).getD j 0=_;rw[ao,yKb s _ (by grind) (by grind),fF];grind
def uZ (B:BT)(l:List zJ)(i:Nat):Bool:=gZ B.1 B.2.1 B.2.2.1 B.2.2.2 l i
theorem vH6 B l {m}(hm:m.length=B.1.length) j:(fk (eS B l) m).getD j 0=m.getD j 0-(if j<B.1.length∧uZ B l j=true then 1 else 0):=by
 have:=yKb ((List.range B.1.length).filter fun i=>uZ B l i) m (List.Nodup.sublist List.filter_sublist (by grind)) (by grind) j;unfold eS uR;rw[show(fun i=>gZ B.1 B.2.1 B.2.2.1 B.2.2.2 l i)=fun i=>uZ B l i from rfl,this];simp
theorem aap {B l}:eS B l=[]↔∀j,j<B.1.length→uZ B l j=false:=by
 unfold eS uR;rw[List.map_eq_nil_iff,List.filter_eq_nil_iff];constructor
 ·intro h j hj;have:=h j (by grind)
  simpa[uZ] using this
 ·intro h i hi;have:=h i (by grind)
  simpa[uZ] using this
theorem vMl {l many p}:∀{N},p∈nx l many N→∃i,i<N∧l.getD i pd=p∧th l many i=true
 |N+1,h=>by
  unfold nx at h;rw[List.mem_append] at h;rcases h with h|h
  ·obtain⟨i,h1,h2⟩:=vMl h;grind
  grind
theorem aaq {B l}(hl:∀q∈l,yR B.1.length q){m j}(h:uZ B (vM l m) j=true):1≤m.getD j 0:=by
 unfold uZ gZ at h;rw[aR,Bool.not_eq_true'] at h;have hn:=yRt (n:=B.1.length) (l:=vM l m) (fun q hq=>hl q ((ym l m).subset hq)) j;rw[h.1] at hn;obtain⟨x,hx,he⟩:=QR.1 hn;obtain⟨i,h1,h2,h3⟩:=vMl (fD (d:=pd) hx);unfold th at h3;have QI:(l.getD i pd)=(vM l m).getD x pd:=h2;grind
inductive ld (B:BT) (l:List zJ):AC→AC→Nat→Prop
 |stop {m:AC} (h:eS B (vM l m)=[]):ld B l m m 0
 |step {m f:AC} {n:Nat} (h:eS B (vM l m)≠[]) (h':ld B l (fk (eS B (vM l m)) m) f n):ld B l m f (n+1)
theorem aar {B l m}(hm:m.length=B.1.length):uX (fk (eS B l) m) m:=by
 refine⟨uY _ _,fun i hi=>?_⟩;rw[vH6 B l hm];omega
theorem uX.trans {u v w}(h:uX u v)(h':uX v w):uX u w:=⟨h.1.trans h'.1,fun i hi=>Int.le_trans (h.2 i (by have:=h'.1;omega)) (h'.2 i hi)⟩
theorem uX.refl v:uX v v:=⟨rfl,by simp⟩
theorem ld.le {B l m f n}(h:ld B l m f n)(hm:m.length=B.1.length):uX f m:=by
 induction h with
 |stop _=>exact uX.refl _
 |step _ _ ih=>exact(ih ((uY _ _).trans hm)).trans (aar hm)
theorem ld.final {B l m f n}(h:ld B l m f n):eS B (vM l f)=[]:=by
 induction h with
 |stop h=>exact h
 |step _ _ ih=>exact ih
def pD (m:AC):Prop:=∀i,0≤m.getD i 0
theorem Rl {B l}(hl:∀q∈l,yR B.1.length q){m}(hm:m.length=B.1.length)(h0:pD m):pD (fk (eS B (vM l m)) m):=by
 intro i;rw[vH6 B _ hm];have:=h0 i;split
 ·rename_i c;have:=aaq hl c.2;omega
 ·omega
theorem ld.nonneg {B l}(hl:∀q∈l,yR B.1.length q){m f n}(h:ld B l m f n)(hm:m.length=B.1.length)(h0:pD m):pD f:=by
 induction h with
 |stop _=>exact h0
 |step _ _ ih=>exact ih ((uY _ _).trans hm) (Rl hl hm h0)
def ny (m:AC):Int:=zQ (fun x=>x) m
theorem yPz:∀m i x,i<m.length→ny (m.set i x)=ny m-m.getD i 0+x
 |y::m,0,x,_=>by
  show x+ny m=y+ny m-y+x;omega
 |y::m,i+1,x,h=>by
  show y+ny (m.set i x)=y+ny m-m.getD i 0+x;rw[yPz m i x (by simp_all)];omega
theorem vB8:∀s m,(∀i∈s,0≤i∧i<(m.length:Int))→ny (fk s m)=ny m-s.length
 |[],m,_=>by simp[fk]
 |i::s,m,h=>by
  have hi:=h i (by simp);show ny (fk s (m.set i.toNat (m.getD i.toNat 0-1)))=_;rw[vB8 s _ (by grind),yPz _ _ _ (by omega)];grind
theorem yEa {B l}:∀i∈eS B l,0≤i∧i<(B.1.length:Int):=by
 intro i hi;obtain⟨x,hx,rfl⟩:=List.mem_map.1 hi;simp_all
theorem vE4:∀{m},pD m→0≤ny m
 |[],_=>Int.le_refl 0
 |x::m,h=>by
  have h1:0≤x:=h 0;have h2:=vE4 (m:=m) (fun i=>h (i+1));show 0≤x+ny m;omega
theorem vFv {B l}(hl:∀q∈l,yR B.1.length q):∀(N:Nat) m,m.length=B.1.length→pD m→ny m≤N→∃f n,ld B l m f n∧n≤N
 |N,m,hm,h0,hN=>by
  by_cases c:eS B (vM l m)=[]
  ·exact⟨m,0,.stop c,by simp⟩
  ·have ht:=vB8 (eS B (vM l m)) m (by rw[hm];exact yEa);have hp:0<(eS B (vM l m)).length:=by grind
   have h1:=Rl hl hm h0;have h2:=vE4 h1;obtain⟨N,rfl⟩:∃x,N=x+1:=⟨N-1,by omega⟩;obtain⟨f,n,h3,h4⟩:=vFv hl N _ ((uY _ _).trans hm) h1 (by omega);exact⟨f,n+1,.step c h3,by omega⟩
theorem qT1 l many:∀N,(nx l many N).length≤N
 |0=>Nat.le_refl _
 |N+1=>by
  unfold nx;have:=qT1 l many N;grind
theorem vRv (l:List zJ) i (hi:i<l.length) f:ez (l.take (i+1)) f=ez (l.take i) f+(if(l.getD i pd).2.1=f then 1 else 0):=by
 unfold ez;rw[Ch _ _ _ pd hi,ay];unfold jE;grind
def hY (l:List zJ)(n:Nat):AC:=(List.range n).map fun(i:Nat)=>((ez l i:Nat):Int)
theorem vK2 l i:hY l (i+1)=hY l i++[((ez l i:Nat):Int)]:=by
 unfold hY;rw[List.range_succ,List.map_append];rfl
theorem yn l n:(hY l n).length=n:=by
 unfold hY;simp
theorem Mh:∀s m i,m.getD i 0-s.length≤(fk s m).getD i 0∧(fk s m).getD i 0≤m.getD i 0
 |[],m,i=>by simp[fk]
 |x::s,m,i=>by
  have h:=Mh s (m.set x.toNat (m.getD x.toNat 0-1)) i;rw[fF] at h;have e:fk (x::s) m=fk s (m.set x.toNat (m.getD x.toNat 0-1)):=rfl;rw[e,List.length_cons];by_cases c:x.toNat=i∧x.toNat<m.length
  ·grind
  omega
theorem yM5 (s m:AC) i (hi:i<s.length):fk (s.take (i+1)) m=(fk (s.take i) m).set (s.getD i 0).toNat ((fk (s.take i) m).getD (s.getD i 0).toNat 0-1):=by
 unfold fk;rw[←fE s i 0 hi,List.foldl_append];rfl
theorem yMg g:∀n,zQ (fun x=>x) ((List.range n).map g)=qJ g n
 |0=>rfl
 |n+1=>by
  rw[List.range_succ,List.map_append,kU,yMg g n];show qJ g n+(g n+0)=qJ g n+g n;omega
theorem aas l f:((ez l f:Nat):Int)=zQ (fun p:zJ=>if p.2.1=f then 1 else 0) l:=by
 induction l with
 |nil=>rfl
 |cons p l ih=>
  unfold ez jE at*
  show _=(if p.2.1=f then(1:Int) else 0)+zQ _ l;grind
theorem aat l n:ny (hY l n)≤l.length:=by
 unfold ny hY;rw[yMg (fun i:Nat=>((ez l i:Nat):Int)) n,sW (h:=fun j=>zQ (fun p:zJ=>if p.2.1=(j:Int) then 1 else 0) l) (fun j _=>aas l j),P4];have := (B1 (A := 1) (l := l) (g := fun p : zJ => qJ (fun j => if p.2.1 = (j : Int) then 1 else 0) n) (fun p _=>by
  by_cases c:0≤p.2.1
  ·obtain⟨f,hf⟩:∃f:Nat,p.2.1=f:=⟨p.2.1.toNat,by omega⟩;have e:qJ (fun j=>if p.2.1=(j:Int) then(1:Int) else 0) n=qJ (fun j=>if j=f then 1 else 0) n:=by grind
   rw[e,B2];omega
  ·have e:qJ (fun j=>if p.2.1=(j:Int) then(1:Int) else 0) n=qJ (fun _=>0) n:=by grind
   rw[e,YP];omega)).2
 omega
theorem yXr l n i:(hY l n).getD i 0=if i<n then((ez l i:Nat):Int) else 0:=by
 unfold hY;grind
theorem aau l f:ez l f≤l.length:=List.length_filter_le _ _
theorem Rm {l}(hl:l.length≤9999) n:pD (hY l n)∧∀i,(hY l n).getD i 0≤9999:=by
 refine⟨fun i=>?_,fun i=>?_⟩
 ·rw[yXr];omega
 ·rw[yXr];have:=aau l i;omega
theorem Mi {B:BT}{l}(hl:∀q∈l,yR B.1.length q)(bU:l.length≤64) m:wH B.1.length (vM l m):=
 ⟨fun p hp=>hl p ((ym l m).subset hp),by have:=(ym l m).length_le;omega⟩
def vE (l:List zJ)(t:Int):List zJ:=l.filter (kp t)
theorem Mj {n l t}(h:∀q∈l,yR n q):∀q∈vE l t,yR n q:=fun q hq=>h q (List.mem_filter.1 hq).1
theorem yo l t:(vE l t).length≤l.length:=List.length_filter_le _ _
theorem qT9 {B}(hb:qX B){l}(hl:∀q∈l,yR B.1.length q)(bU:l.length≤64) t:
  ∃f n,ld B (vE l t) (hY (vE l t) B.1.length) f n∧n≤(vE l t).length:=by
 have h1:=Rm (l:=vE l t) (by have:=yo l t;omega) B.1.length;have h2:=aat (vE l t) B.1.length;exact vFv (Mj hl) (vE l t).length _ (yn _ _) h1.1 (by omega)
def pE (l:List zJ)(hs:List zJ):List zJ:=hs.foldl (fun l p=>fj l p.1) l
theorem aav l id:(fj l id).length≤l.length∧List.Sublist (fj l id) l:=by
 unfold fj iG;cases vX l id with
 |none=>simp
 |some x=>exact⟨(uT l x).length_le,uT l x⟩
theorem Rn:∀hs l,(pE l hs).length≤l.length∧List.Sublist (pE l hs) l
 |[],l=>⟨Nat.le_refl _,List.Sublist.refl _⟩
 |p::hs,l=>by
  obtain⟨h1,h2⟩:=Rn hs (fj l p.1);obtain⟨h3,h4⟩:=aav l p.1;exact⟨Nat.le_trans h1 h3,h2.trans h4⟩
theorem yZj (l hs:List zJ) i (hi:i<hs.length):pE l (hs.take (i+1))=fj (pE l (hs.take i)) (hs.getD i pd).1:=by
 unfold pE;rw[←fE hs i pd hi,List.foldl_append];rfl
def GO (B:BT)(l hs:List zJ)(r:List yG×EQ×AC×EQ×Int):(List (Int×Int×Int))×EQ×AC×EQ×(List zJ)×(List zJ):=
 bif !(decide (r.2.2.2.2=0)) then(B.1,B.2.1,B.2.2.1,B.2.2.2,l,[]) else(r.1,r.2.1,r.2.2.1,r.2.2.2.1,pE l hs,hs)
theorem qSx {k:Nat}{l:List zJ}(hk:l.length<k)(hl:yB l){many:AC}(h0:pD many)(hm:∀i,many.getD i 0≤9999)(GH:many.length≤9999):GP k l many=some (vM l many):=by
 unfold yB at hl;unfold GP qM4 qOf;rw[qF];simp only[ag,ae];obtain ⟨s', h1, h2, h3, h4⟩ := vA (L := fun n i (s : AC × List zJ) => GQ k n l l.length i s.1 s.2) (N := l.length) (fun s => s) (fun i s => s.1.length = many.length ∧ (∀ f : Nat, f < many.length → s.1.getD f 0 = if many.getD f 0 ≤ (ez (l.take i) f : Nat) then 0 else many.getD f 0 - (ez (l.take i) f : Nat)) ∧ s.2 = nx l many i) (fun n s _=>by
  show GR k _ l l.length l.length s.1 s.2=_;unfold GR;simp only [qZ, ab (Nat.lt_irrefl _), ak]) (fun n i s hi hs=>by
  obtain⟨s1,s2,s3⟩:=hs;have dP:s.2.length≤i:=by rw[s3];exact qT1 l many i
  show∃s',GR k _ l l.length i s.1 s.2=_∧_;unfold GR qOh;simp only[qB,qD hi (show l.length<9223372036854775808 by omega),qZ,ao,aa hi,ag,ot (show s.2.length≤9999 by omega)];have nY:=fun f=>vRv l i hi f
  have Km:∀f:Nat,f<many.length→(l.getD i pd).2.1≠(f:Int)→(if many.getD f 0≤(ez (l.take (i+1)) f:Nat) then(0:Int) else many.getD f 0-(ez (l.take (i+1)) f:Nat))=if many.getD f 0≤(ez (l.take i) f:Nat) then 0 else many.getD f 0-(ez (l.take i) f:Nat):=by
   intro f hf bx;rw[nY f,if_neg bx,Nat.add_zero]
  have skip:th l many i=false→(∀f:Nat,f<many.length→(l.getD i pd).2.1=(f:Int)→many.getD f 0≤(ez (l.take i) f:Nat))→(s.1.length=many.length∧(∀f:Nat,f<many.length→s.1.getD f 0=if many.getD f 0≤(ez (l.take (i+1)) f:Nat) then 0 else many.getD f 0-(ez (l.take (i+1)) f:Nat))∧s.2=nx l many (i+1)):=by
   intro hh hz;refine⟨s1,fun f hf=>?_,?_⟩
   ·by_cases c:(l.getD i pd).2.1=(f:Int)
    ·have:=hz f hf c;rw[s2 f hf,if_pos this,nY f,if_pos c,if_pos (by omega)]
    ·rw[Km f hf c,s2 f hf]
   ·show _=nx l many i++_;rw[hh,s3];simp
  cases e1:decide ((l.getD i pd).2.1<0) with
  |true=>
   refine⟨s,rfl,skip ?_ ?_⟩
   ·unfold th;rw[ba] at e1;rw[ab (show¬(l.getD i pd).2.1≥0 by omega)];rfl
   ·intro f hf c;rw[ba] at e1;omega
  |false=>
   cases e2:decide ((l.getD i pd).2.1≥((s.1.length:Nat):Int)) with
   |true=>
    refine⟨s,rfl,skip ?_ ?_⟩
    ·unfold th;rw[ba] at e2;rw[ab (show¬(l.getD i pd).2.1<(many.length:Int) by omega),Bool.and_false];rfl
    ·intro f hf c;rw[ba] at e2;omega
   |false=>
    rw[decide_eq_false_iff_not] at e1 e2;obtain⟨f,hf⟩:∃f:Nat,(l.getD i pd).2.1=f:=⟨(l.getD i pd).2.1.toNat,by omega⟩;have Pe:f<many.length:=by omega
    have eu:(l.getD i (0,(0,(0,(0,(0,(0,0))))))).2.1=f:=hf;simp only[ak,eu,qB,ao,s1,aa Pe,ag];have Bw:th l many i=decide (((ez (l.take i) f:Nat):Int)<many.getD f 0):=by
     unfold th;rw[hf,aa (show(f:Int)≥0 by omega),aa (show(f:Int)<(many.length:Int) by omega),ao];rfl
    have iU:=s2 f Pe;cases e3:decide (s.1.getD f 0<1) with
    |true=>
     rw[ba,iU] at e3;have hle:many.getD f 0≤(ez (l.take i) f:Nat):=by
      by_cases c:many.getD f 0≤(ez (l.take i) f:Nat)
      ·exact c
      ·rw[if_neg c] at e3;omega
     refine⟨s,rfl,skip (by rw[Bw];exact ab) ?_⟩;intro g hg c;have:g=f:=by omega
     subst this;exact hle
    |false=>
     rw[decide_eq_false_iff_not] at e3;have hgt:¬many.getD f 0≤(ez (l.take i) f:Nat):=by
      intro c;rw[iU,if_pos c] at e3;omega
     rw[if_neg hgt] at iU;have my:=hm f;have hw:zA (s.1.getD f 0-1)=s.1.getD f 0-1:=zP;refine⟨(s.1.set f (s.1.getD f 0-1),s.2++[l.getD i pd]),?_,?_,?_,?_⟩
     ·simp only[ak,ae,ag,hw]
     ·rw[List.length_set];exact s1
     ·intro g hg;rw[fF];by_cases c:f=g
      ·subst c;rw[if_pos ⟨rfl,by omega⟩,nY f,if_pos hf,iU];by_cases d:many.getD f 0≤((ez (l.take i) f+1:Nat):Int)
       ·rw[if_pos d];omega
       ·rw[if_neg d];omega
      ·rw[if_neg (fun e=>c e.1),Km g hg (by omega)];exact s2 g hg
     ·show s.2++[l.getD i pd]=nx l many i++_;rw[Bw,aa,s3];rfl) (s:=(many,[])) hk ⟨rfl,fun f hf=>by
   have:(ez (l.take 0) f:Nat)=0:=rfl;have h0f:=h0 f;rw[this];by_cases c:many.getD f 0≤((0:Nat):Int)
   ·rw[if_pos c];show many.getD f 0=0;omega
   ·rw[if_neg c];show many.getD f 0=_;omega,rfl⟩
 have fa:GQ k k l l.length 0 many []=some s':=h1;rw[fa];simp only[ae,h4];rfl
theorem yN0 {k l}(hk:l.length<k)(hl:yB l) f:Mk k l f=some (l.filter (jE f)):=by
 unfold Mk yEh;have := LH pd (L := fun n i s => Mm k n l l.length i f s) (jE f) id (fun n s=>by
  show GS k _ l l.length l.length f s=_;unfold GS;simp) (fun n i s hi hs=>by
  show GS k _ l l.length i f s=_;unfold GS qW0;unfold yB at hl;simp[qB,qD hi (by grind),ot (show s.length≤9999 by omega)];unfold jE;grind) hk
 simp_all
theorem vN1 {k}{B:BT}{l}(hk:l.length<k)(hl:yB l)(hn:B.1.length<k)(hn':B.1.length≤9999) s7:
  Ct k k s7 B.1.length 0 B.1 B.2.1 B.2.2.1 B.2.2.2 [] l=some (s7,B.1,B.2.1,B.2.2.1,B.2.2.2,hY l B.1.length,l):=by
 obtain ⟨s', h1, h2⟩ := vA (L := fun n i (s : AC) => Ct k n s7 B.1.length i B.1 B.2.1 B.2.2.1 B.2.2.2 s l) (N := B.1.length) (fun s => (s7, B.1, B.2.1, B.2.2.1, B.2.2.2, s, l)) (fun i s => s = hY l i) (fun n s _=>by
  show GU k _ s7 B.1.length B.1.length B.1 B.2.1 B.2.2.1 B.2.2.2 s l=_;unfold GU;simp) (fun n i s hi hs=>by
  refine⟨_,?_,(vK2 l i).symm⟩;show GU k _ s7 B.1.length i B.1 B.2.1 B.2.2.1 B.2.2.2 s l=_;unfold GU;have hr:zL (s.length+1) 8=true:=by rw[hs,yn];exact qF
  simp[aa hi,yN0 hk hl,hr,qD hi (by grind)];rw[hs];rfl) (s:=[]) hn rfl
 simp_all
theorem aaw {k}{B:BT}{l:List zJ}{s m}(hk:s.length<k)(hs:s.length≤9999)(gC:∀x∈s,0≤x∧x<(m.length:Int))(h0:pD m)(hm:∀i,m.getD i 0≤9999) s7:
  GV k k s7 s.length 0 B.1 B.2.1 B.2.2.1 B.2.2.2 m l s=some (s7,B.1,B.2.1,B.2.2.1,B.2.2.2,fk s m,l):=by
 obtain ⟨s', h1, h2⟩ := vA (L := fun n i (r : AC) => GV k n s7 s.length i B.1 B.2.1 B.2.2.1 B.2.2.2 r l s) (N := s.length) (fun r => (s7, B.1, B.2.1, B.2.2.1, B.2.2.2, r, l)) (fun i r => r = fk (s.take i) m) (fun n r _=>by
  show GW k _ s7 s.length s.length B.1 B.2.1 B.2.2.1 B.2.2.2 r l s=_;unfold GW;simp) (fun n i r hi hr=>by
  refine⟨_,?_,(yM5 s m i hi).symm⟩;show GW k _ s7 s.length i B.1 B.2.1 B.2.2.1 B.2.2.2 r l s=_;unfold GW;obtain⟨b1,b2⟩:=gC _ (fD (d:=0) hi);have sm:r.length=m.length:=by rw[hr,uY]
  have hb:zB (s.getD i 0) r.length=true:=wT b1 (by omega);have fB:=Mh (s.take i) m (s.getD i 0).toNat;have um:=h0 (s.getD i 0).toNat;have my:=hm (s.getD i 0).toNat;have aS:(s.take i).length≤s.length:=by grind
  have hw:zA (r.getD (s.getD i 0).toNat 0-1)=r.getD (s.getD i 0).toNat 0-1:=by
   rw[hr];exact zP
  simp only[qZ,qB,ao,aa hi,ag,hb,hw,qD hi (by grind)];rw[hr]) (s:=m) hk rfl
 simp_all
theorem aax {k}(hk:100<k){B}(hb:qX B){l}(hl:∀q∈l,yR B.1.length q)(bU:l.length≤64){m f n}(h:ld B l m f n):
  ∀N (s7:Int),m.length=B.1.length→pD m→(∀i,m.getD i 0≤9999)→n<N→0≤s7→s7+n<1000000→
  Mn k N s7 B.1 B.2.1 B.2.2.1 B.2.2.2 m l=some (s7+n+1,f):=by
 induction h with
 |@stop m h=>
  intro N s7 hm h0 h1 hn hs pZ;obtain⟨N,rfl⟩:∃x,N=x+1:=⟨N-1,by omega⟩;have hZ:=hb.n6;show GX k _ s7 B.1 B.2.1 B.2.2.1 B.2.2.2 m l=_;unfold GX;have hS:=ZQ hk hb (Mi hl bU m);have oX:Cf k B.1 B.2.1 B.2.2.1 B.2.2.2 (vM l m)=some (eS B (vM l m)):=hS;rw[qSx (by omega) (show yB l by show l.length≤9999;omega) h0 h1 (by omega)];simp[ae];rw[oX,h];have w:zA (s7+1)=s7+1:=zP;rw[w];simp
 |@step m f n h h' ih=>
  intro N s7 hm h0 h1 hn hs pZ;obtain⟨N,rfl⟩:∃x,N=x+1:=⟨N-1,by omega⟩;have hZ:=hb.n6;show GX k _ s7 B.1 B.2.1 B.2.2.1 B.2.2.2 m l=_;unfold GX;have hS:=ZQ hk hb (Mi hl bU m);have oX:Cf k B.1 B.2.1 B.2.2.1 B.2.2.2 (vM l m)=some (eS B (vM l m)):=hS;rw[qSx (by omega) (show yB l by show l.length≤9999;omega) h0 h1 (by omega)];simp only[ae];rw[oX];simp only[ae];have w:zA (s7+1)=s7+1:=zP;have bx : decide ((((eS B (vM l m)).length : Nat) : Int) = 0) = false := ab (by
   simp_all)
  have dP:(eS B (vM l m)).length≤B.1.length:=by
   unfold eS uR;grind
  rw[bx,w];rw[aaw (by omega) (by omega) (by rw[hm];exact yEa) h0 h1];simp;have hd0:=Rl hl hm h0;have:=ih N (s7+1) ((uY _ _).trans hm) hd0 (fun i=>by have:=(Mh (eS B (vM l m)) m i).2;have:=h1 i;omega) (by omega) (by omega) (by omega);rw[this]
  congr 2
  omega
theorem aay {k}(hk:100<k){B}(hb:qX B){l}(hl:∀q∈l,yR B.1.length q)(bU:l.length≤64) t {f n}(hn:n≤l.length)(h:ld B (vE l t) (hY (vE l t) B.1.length) f n):
  Ro k B.1 B.2.1 B.2.2.1 B.2.2.2 l t=some (f,((n+1:Nat):Int)):=by
 have hZ:=hb.n6;have hr:=yo l t;have h1:=Rm (l:=vE l t) (by omega) B.1.length;unfold Ro;rw[ZW (by omega) (by show l.length≤9999;omega)];simp;have e:Ct k k 0 B.1.length 0 B.1 B.2.1 B.2.2.1 B.2.2.2 [] (l.filter (kp t))=_:=vN1 (k:=k) (B:=B) (l:=vE l t) (by omega) (by show(vE l t).length≤9999;omega) (by omega) (by omega) 0;rw[e];simp;rw[aax hk hb (Mj hl) (by omega) h k 0 (yn _ _) h1.1 h1.2 (by omega) (by omega) (by omega)];simp
theorem aaz {k}{C:BT}{l hs:List zJ}(hl:l.length<k)(dL:l.length≤9999)(hk:hs.length<k)(hh:hs.length≤9999):
  Cu k k l hs.length 0 C.1 C.2.1 C.2.2.1 C.2.2.2 hs=some (pE l hs,C.1,C.2.1,C.2.2.1,C.2.2.2,hs):=by
 obtain ⟨s', h1, h2⟩ := vA (L := fun n i (s : List zJ) => Cu k n s hs.length i C.1 C.2.1 C.2.2.1 C.2.2.2 hs) (N := hs.length) (fun s => (s, C.1, C.2.1, C.2.2.1, C.2.2.2, hs)) (fun i s => s = pE l (hs.take i)) (fun n s _=>by
  show GY k _ s hs.length hs.length C.1 C.2.1 C.2.2.1 C.2.2.2 hs=_;unfold GY;simp) (fun n i s hi hr=>by
  refine⟨_,?_,(yZj l hs i hi).symm⟩;show GY k _ s hs.length i C.1 C.2.1 C.2.2.1 C.2.2.2 hs=_;unfold GY;have dP:=(Rn (hs.take i) l).1;rw[←hr] at dP⊢;simp[qB,aa hi,Cm (show s.length<k by omega) (show yB s by show s.length≤9999;omega),qD hi (by grind)];rfl) (s:=l) hk rfl
 simp_all
theorem qO7 {k:Nat}(hk:100<k){B:BT}(hb:qX B){l:List zJ}(hl:∀q∈l,yR B.1.length q)(bU:l.length≤64)(t:Int){f:AC}{n:Nat}(hn:n≤l.length)(h:ld B (vE l t) (hY (vE l t) B.1.length) f n)
  {r:List yG×EQ×AC×EQ×Int} (hr:qu k B.1 B.2.1 B.2.2.1 B.2.2.2 (vM (vE l t) f)=some r):Cv k B.1 B.2.1 B.2.2.1 B.2.2.2 l t=some (GO B l (vM (vE l t) f) r):=by
 have hZ:=hb.n6;have sm:=yo l t;have h1:=Rm (l:=vE l t) (by omega) B.1.length;have hle:=h.le (yn _ _);have h0:=h.nonneg (Mj hl) (yn _ _) h1.1;have Pe:f.length=B.1.length:=hle.1.trans (yn _ _);have hf:∀i,f.getD i 0≤9999:=fun i=>by
  by_cases c:i<(hY (vE l t) B.1.length).length
  ·have:=hle.2 i c;have:=h1.2 i;omega
  ·rw[bT,List.getElem?_eq_none (by have:=hle.1;omega)];show(0:Int)≤9999;omega
 have Rp:=(ym (vE l t) f).length_le;unfold Cv;rw[aay hk hb hl bU t hn h,ZW (by omega) (by show l.length≤9999;omega)];simp only[ae];have e:GP k (l.filter (kp t)) f=_:=qSx (k:=k) (l:=vE l t) (by omega) (by show(vE l t).length≤9999;omega) h0 hf (by omega);rw[e];simp only[ae];rw[hr];simp only[ae];unfold GO;cases decide (r.2.2.2.2=0) with
 |false=>rfl
 |true=>
  simp only[aA,ak];have e2:Cu k k l ((List.length (vM (vE l t) f):Nat):Int) 0 r.1 r.2.1 r.2.2.1 r.2.2.2.1 (vM (vE l t) f)=_:=aaz (C:=(r.1,r.2.1,r.2.2.1,r.2.2.2.1)) (by omega) (by omega) (by omega) (by omega);rw[e2];rfl
theorem aaA {l x}(hx:x<l.length):List.Perm (l.getD x pd::yN l x) l:=by
 unfold yN;have h:List.Perm (l.getD x pd::(l.take x++l.drop (x+1))) (l.take x++l.getD x pd::l.drop (x+1)):=by grind
 simp_all
theorem Rq {l}(hd:qP l){p}(hp:p∈l):List.Perm (p::fj l p.1) l:=by
 obtain⟨x,hx⟩:=Q0 hp;have h:=kZ hx;have e:l.getD x pd=p:=hd.eq_of (by grind) hp h.2;unfold fj iG;have:=aaA h.1;simp_all
theorem g9.perm {k t B C l done m}(h:g9 k t B l done C m)(hd:qP l):List.Perm (done++m) l:=by
 induction h with
 |stop _=>rfl
 |step h _ ih=>
  have hp:=GD (Cq h).1;exact((ih (List.Pairwise.sublist (uW hp).2 hd)).cons _).trans (Rq hd hp)
theorem ek.perm {k t B C l done m}(h:ek k t B l done C m)(hd:qP l):List.Perm (done++m) l:=by
 induction h with
 |stop _=>rfl
 |step h _ ih=>
  obtain⟨hp,hq,pC,_⟩:=GJ h;obtain⟨h1,h2⟩:=GK hd hp hq pC;have xr:qP (fj _ _):=List.Pairwise.sublist (uW hp).2 hd;have pA:=qX7 hp hq (yTh hd hp hq pC);exact(((ih (List.Pairwise.sublist h2 hd)).cons _).cons _).trans (((Rq xr pA).cons _).trans (Rq hd hp))
theorem g9.final {k t B C l done m}(h:g9 k t B l done C m):fZ k C (wM m t)=none:=by
 induction h with
 |stop h=>exact h
 |step _ _ ih=>exact ih
theorem ek.final {k t B C l done m}(h:ek k t B l done C m):fR k C m t=none:=by
 induction h with
 |stop h=>exact h
 |step _ _ ih=>exact ih
theorem qP.perm {l m}(h:qP l)(hp:List.Perm m l):qP m:=(List.Perm.pairwise_iff (R:=fun p q:zJ=>p.1≠q.1) (by grind) hp.symm).1 h
inductive mF (k:Nat) (t:Int):BT→List zJ→List zJ→BT→List zJ→Prop
 |stop {B C:BT} {l m d:List zJ} (h1:g9 k t B l d C m) (h2:fR k C m t=none):mF k t B l d C m
 |step {B C D E:BT} {l m n o d e f:List zJ} (h1:g9 k t B l d C m) (h2:ek k t C m e D n) (ne:e≠[]) (h':mF k t D n f E o):mF k t B l (d++e++f) E o
theorem mF.perm {k t B C l done m}(h:mF k t B l done C m)(hd:qP l):List.Perm (done++m) l:=by
 induction h with
 |stop h1 _=>exact h1.perm hd
 |@step B C D E l m n o d e f h1 h2 ne h' ih=>
  have p1:=h1.perm hd;have hd1:=hd.perm p1;have hm:qP m:=(List.pairwise_append.1 hd1).2.1;have p2:=h2.perm hm;have hn:qP n:=(List.pairwise_append.1 (hm.perm p2)).2.1;grind
theorem mF.final {k t B C l done m}(h:mF k t B l done C m):fZ k C (wM m t)=none∧fR k C m t=none:=by
 induction h with
 |stop h1 h2=>exact⟨h1.final,h2⟩
 |step _ _ _ _ ih=>exact ih
theorem g9.none {k t B C l done m}(h:g9 k t B l done C m)(hn:fZ k B (wM l t)=none):done=[]∧C=B∧m=l:=by
 cases h with
 |stop _=>simp
 |step h _=>simp_all
theorem ek.none {k t B C l done m}(h:ek k t B l done C m)(hn:fR k B l t=none):done=[]∧C=B∧m=l:=by
 cases h with
 |stop _=>simp
 |step h _=>simp_all
theorem ek.nil {k t B C l m}(h:ek k t B l [] C m):fR k B l t=Option.none∧C=B∧m=l:=by
 cases h with
 |stop h=>simp_all
theorem mF.none {k t B C l done m}(h:mF k t B l done C m)(h1:fZ k B (wM l t)=Option.none)(h2:fR k B l t=Option.none):done=[]∧C=B∧m=l:=by
 cases h with
 |stop g1 _=>exact g1.none h1
 |step g1 g2 ne _=>
  obtain⟨rfl,rfl,rfl⟩:=g1.none h1;obtain⟨rfl,_,_⟩:=g2.none h2;simp_all
theorem vAr {k:Nat}(hk:200≤k)(t:Int):∀(n:Nat) (B:BT) (l r:List zJ),qX B→qP l→l.length≤100→l.length<n→r.length+l.length≤900→
  ∃(C:BT) (m done:List zJ),Mo k n t l B.1 B.2.1 B.2.2.1 B.2.2.2 r=some (m,C.1,C.2.1,C.2.2.1,C.2.2.2,r++done)∧mF k t B l done C m∧qX C∧C.1.length=B.1.length∧List.Sublist m l
 |0,_,_,_,_,_,_,h,_=>absurd h (Nat.not_lt_zero _)
 |n+1,B,l,r,hb,hd,hl,hn,hr=>by
  obtain⟨C,m,d,f1,f2,f3,f4,f5⟩:=aam hk hb hd hl t;have p1:=f2.perm hd;have l1:=p1.length_eq;rw[ay] at l1;have hm:qP m:=List.Pairwise.sublist f5 hd;obtain⟨D,o,e,g1,g2,g3,g4,g5⟩:=aao hk f3 hm (by omega) t;have p2:=g2.perm hm;have l2:=p2.length_eq;rw[ay] at l2;have r1:zL (r.length+d.length) 56=true:=qF;have r2:zL ((r++d).length+e.length) 56=true:=qF (by rw[ay];omega) (by grind);show∃C' m' ajB,Rr k _ t l B.1 B.2.1 B.2.2.1 B.2.2.2 r=_∧_;unfold Rr;rw[f1];simp only[ae];rw[g1];simp only[ae,r1,r2,ag];cases e with
  |nil=>
   obtain⟨h1,h2,h3⟩:=g2.nil;subst h2;subst h3;refine⟨D,o,d,?_,.stop f2 h1,f3,f4,f5⟩;simp
  |cons p e=>
   have aS:o.length+(e.length+1)=m.length:=by simp at l2;omega
   obtain⟨E,q,f,k1,k2,k3,k4,k5⟩:=vAr hk t n D o (r++d++(p::e)) g3 (List.Pairwise.sublist g5 hm) (by omega) (by omega) (by simp;omega);refine⟨E,q,d++(p::e)++f,?_,.step f2 g2 (by simp) k2,k3,k4.trans (g4.trans f4),k5.trans (g5.trans f5)⟩;grind
theorem GZ {k}(hk:200≤k){B}(hb:qX B){l}(hd:qP l)(hl:l.length≤100) t:
  ∃(C:BT) (m done:List zJ),Mp k B.1 B.2.1 B.2.2.1 B.2.2.2 l t=some (C.1,C.2.1,C.2.2.1,C.2.2.2,m,done)∧mF k t B l done C m∧qX C∧C.1.length=B.1.length∧List.Sublist m l:=by
 obtain⟨C,m,done,h1,h3⟩:=vAr hk t k B l [] hb hd hl (by omega) (by grind);refine⟨C,m,done,?_,h3⟩;unfold Mp;simp_all
theorem yV2:∀hs l,qP l→qP hs→(∀q∈hs,q∈l)→List.Perm (hs++pE l hs) l
 |[],l,_,_,_=>List.Perm.refl _
 |p::hs,l,hd,hh,gC=>by
  have hp:=gC p (by simp);obtain⟨h1,h2⟩:=uW hp;have hc:=List.pairwise_cons.1 hh;have:=yV2 hs (fj l p.1) (List.Pairwise.sublist h2 hd) hc.2 (fun q hq=>qX7 hp (by grind) (by grind));exact(this.cons p).trans (Rq hd hp)
theorem vYd {k}(hk:100<k){B}(hb:qX B):qu k B.1 B.2.1 B.2.2.1 B.2.2.2 []=some (B.1,B.2.1,B.2.2.1,B.2.2.2,0):=by
  obtain⟨r,h1,h3⟩:=QE hk hb (l:=[]) (by simp);have aU:wH B.1.length []:=⟨by simp,by simp⟩;obtain⟨a',p',h4,h5⟩:=h3.1 aU;have an:uN B.1.length B.1 B.2.2.2 [] B.1 B.2.2.2:={
    al:=rfl
    acct:=fun i hi=>by
      have hr:0≤(B.1.getD i ad).2.2:=by
        have:=hb.nums.res i hi;omega
      show B.1.getD i ad=((B.1.getD i ad).1+0,(B.1.getD i ad).2.1,jI (B.1.getD i ad).2.2 0);have e:jI (B.1.getD i ad).2.2 0=(B.1.getD i ad).2.2:=by
        unfold jI;omega
      simp_all
    pl:=hb.pl
    pr:=hb.pr
    cell:=fun i hi j hj=>by show _=_+0-0;omega}
  obtain⟨e1,e2⟩:=h4.same an;subst e1;subst e2;rw[Ft.2 hb] at h5;simp_all
theorem qVs {k:Nat}(hk:200≤k){B:BT}(hb:qX B){l:List zJ}(hd:qP l)(hl:∀q∈l,yR B.1.length q)(bU:l.length≤64)(t:Int):
  ∃(C:BT) (m done:List zJ),Cv k B.1 B.2.1 B.2.2.1 B.2.2.2 l t=some (C.1,C.2.1,C.2.2.1,C.2.2.2,m,done)∧qX C∧C.1.length=B.1.length∧List.Sublist m l∧List.Perm (done++m) l∧(done=[]→C=B∧m=l):=by
 obtain⟨f,n,h,hn⟩:=qT9 hb hl bU t;have sm:=yo l t;have cP:=ym (vE l t) f;have Rp:=cP.length_le;obtain⟨r,h1,h2,h3⟩:=GC (k:=k) (by omega) hb (l:=vM (vE l t) f) (by omega);have hs:=Re hb h3;have g1:=qO7 (k:=k) (by omega) hb hl bU t (by omega) h h1;unfold GO at g1;cases c:decide (r.2.2.2.2=0) with
 |false=>
  rw[c] at g1;exact⟨B,l,[],g1,hb,rfl,List.Sublist.refl _,List.Perm.refl _,fun _=>⟨rfl,rfl⟩⟩
 |true=>
  rw[c] at g1;have dP:List.Sublist (vM (vE l t) f) l:=cP.trans List.filter_sublist;have hal:r.1.length=B.1.length:=by
   by_cases c':wH B.1.length (vM (vE l t) f)
   ·obtain⟨a',p',x,e⟩:=h3.1 c';cases hi:kY a' B.2.1 B.2.2.1 p' with
    |false=>rw[hi] at e;subst e;rfl
    |true=>rw[hi] at e;subst e;exact x.al
   ·rw[h3.2 c']
  refine⟨(r.1,r.2.1,r.2.2.1,r.2.2.2.1),pE l (vM (vE l t) f),vM (vE l t) f,g1,hs.2.1,hal,(Rn _ _).2,yV2 _ _ hd (List.Pairwise.sublist dP hd) (fun q hq=>dP.subset hq),fun e=>?_⟩;rw[e] at h1⊢;rw[vYd (by omega) hb] at h1;cases h1;exact⟨rfl,rfl⟩
theorem aaB {k}(hk:200≤k){B}(hb:qX B){l}(hd:qP l)(hl:∀q∈l,yR B.1.length q)(bU:l.length≤64) t all:
  ∃(C:BT) (m done:List zJ),yp k B.1 B.2.1 B.2.2.1 B.2.2.2 l t all=some (C.1,C.2.1,C.2.2.1,C.2.2.2,m,done)∧qX C∧C.1.length=B.1.length∧List.Sublist m l∧List.Perm (done++m) l∧fZ k C (wM m t)=none∧fR k C m t=none:=by
 obtain⟨C,m,d,f1,f2,f3,f4,f5⟩:=GZ hk hb hd (by omega) t;have p1:=f2.perm hd;have l1:=p1.length_eq;rw[ay] at l1;unfold yp;rw[f1];simp only[ae];cases all with
 |false=>exact⟨C,m,d,rfl,f3,f4,f5,p1,f2.final⟩
 |true=>
  have hm:qP m:=List.Pairwise.sublist f5 hd;obtain⟨D,n,x,g1,g2,g3,g4,g5,g6⟩:=qVs hk f3 hm (by grind) (by omega) t;have l2:=g5.length_eq;rw[ay] at l2;rw[g1];simp only[ae];cases x with
  |nil=>
   obtain⟨rfl,rfl⟩:=g6 rfl;exact⟨D,n,d,rfl,f3,f4,f5,p1,f2.final⟩
  |cons p x=>
   have e1:decide ((((p::x).length:Nat):Int)=0)=false:=by grind
   have hn:qP n:=List.Pairwise.sublist g4 hm;obtain⟨E,o,y,k1,k2,k3,k4,k5⟩:=GZ hk g2 hn (by omega) t;have p3:=k2.perm hn;have l3:=p3.length_eq;rw[ay] at l3;have r1:zL (d.length+(p::x).length) 56=true:=qF;have r2:zL ((d++(p::x)).length+y.length) 56=true:=qF (by simp at l2⊢;omega) (by simp at l2⊢;omega);rw[k1];simp only[ae,r1,r2];refine⟨E,o,d++(p::x)++y,rfl,k3,k4.trans (g3.trans f4),k5.trans (g4.trans f5),?_,k2.final⟩;have e2:d++(p::x)++y++o=d++((p::x)++(y++o)):=by simp
   rw[e2];exact((p3.append_left (p::x)).append_left d).trans ((g5.append_left d).trans p1)
abbrev yD:=Int×Int×Int×Int×Int×Int×Int×Int
abbrev od:yD:=(0,(0,(0,(0,(0,(0,(0,0)))))))
instance Cw:DecidableEq yD:=@instDecidableEqProd Int (Int×Int×Int×Int×Int×Int×Int) inferInstance (@instDecidableEqProd Int (Int×Int×Int×Int×Int×Int) inferInstance inferInstance)
def fI (to:Int)(p:zJ):yD:=(to,18,p.1,p.2.1,p.2.2.1,p.2.2.2.1,0,0)
def tj (p:zJ):List yD:=[fI p.2.1 p,fI p.2.2.1 p]
def vT:List zJ→List yD
 |[]=>[]
 |p::l=>tj p++vT l
theorem yT3:∀l m,vT (l++m)=vT l++vT m
 |[],_=>rfl
 |p::l,m=>by
  show tj p++vT (l++m)=tj p++vT l++vT m;rw[yT3 l m,List.append_assoc]
theorem G0:∀l,(vT l).length=2*l.length
 |[]=>rfl
 |p::l=>by
  show(tj p++vT l).length=_;rw[ay,G0 l];simp[tj];omega
theorem yY5 (l:List zJ) i (hi:i<l.length):vT (l.take (i+1))=vT (l.take i)++tj (l.getD i pd):=by
 rw[←fE l i pd hi,yT3];rfl
theorem yq {n}(h:n≤9999):zL (n+1) 64=true:=qF
theorem aaC {k}(hk:3≤k)(s8:List zJ) s9 av (r:List yD)(hr:r.length≤900) p:
  yr k k s8 s9 av 2 0 r p.1 p.2.1 p.2.2.1 p.2.2.2.1 p.2.2.2.2.1 p.2.2.2.2.2.1 p.2.2.2.2.2.2 [p.2.1,p.2.2.1]=some (s8,s9,av,r++tj p):=by
 obtain⟨n,rfl⟩:∃n,k=n+3:=⟨k-3,by omega⟩;have e1:zL (r.length+1) 64=true:=yq (by omega);have e2:zL ((r++[fI p.2.1 p]).length+1) 64=true:=yq (by grind);have h1:rr (n+3) p.2.1 18 [p.1,p.2.1,p.2.2.1,p.2.2.2.1]=some (fI p.2.1 p):=rfl;have h2:rr (n+3) p.2.2.1 18 [p.1,p.2.1,p.2.2.1,p.2.2.2.1]=some (fI p.2.2.1 p):=rfl;have w0:zA (0+1)=1:=by decide
 have w1:zA (1+1)=2:=by decide
 show yt (n+3) (yr (n+3) (n+2)) s8 s9 av 2 0 r p.1 p.2.1 p.2.2.1 p.2.2.2.1 p.2.2.2.2.1 p.2.2.2.2.2.1 p.2.2.2.2.2.2 [p.2.1,p.2.2.1]=_;unfold yt;have g0:[p.2.1,p.2.2.1].getD (Int.toNat 0) 0=p.2.1:=rfl;have b0:zB 0 [p.2.1,p.2.2.1].length=true:=rfl;have d0:decide ((0:Int)<2)=true:=rfl;simp[e1];show yt (n+3) (yr (n+3) (n+1)) s8 s9 av 2 1 (r++[fI p.2.1 p]) p.1 p.2.1 p.2.2.1 p.2.2.2.1 p.2.2.2.2.1 p.2.2.2.2.2.1 p.2.2.2.2.2.2 [p.2.1,p.2.2.1]=_;unfold yt;have g1:[p.2.1,p.2.2.1].getD (Int.toNat 1) 0=p.2.2.1:=rfl;have b1:zB 1 [p.2.1,p.2.2.1].length=true:=rfl;have d1:decide ((1:Int)<2)=true:=rfl;simp only[ag,ae,e2];show yt (n+3) (yr (n+3) n) s8 s9 av 2 2 (r++[fI p.2.1 p]++[fI p.2.2.1 p]) p.1 p.2.1 p.2.2.1 p.2.2.2.1 p.2.2.2.2.1 p.2.2.2.2.2.1 p.2.2.2.2.2.2 [p.2.1,p.2.2.1]=_;unfold yt;have d2:decide ((2:Int)<2)=false:=rfl;rw[d2,List.append_assoc];rfl
theorem yTn {k}{l:List zJ}(hk:l.length+3≤k)(hl:l.length≤400):Rs k l=some (vT l):=by
 unfold Rs;obtain ⟨s', h1, h2⟩ := vA (L := fun n i (s : List yD) => Mq k n l l.length i s) (N := l.length) (fun s => s) (fun i s => s = vT (l.take i)) (fun n s _=>by
  show G1 k _ l l.length l.length s=_;unfold G1;simp) (fun n i s hi hs=>by
  refine⟨_,?_,(yY5 l i hi).symm⟩;show G1 k _ l l.length i s=_;unfold G1;have dP:s.length≤900:=by
   rw[hs,G0,bZ];omega
  have h2:=aaC (k:=k) (by omega) l l.length i s dP (l.getD i pd);simp only[qB,qZ,ao,aa hi,ag];rw[h2];simp[qD hi (by grind)];rw[hs]) (s:=[]) (show l.length<k by omega) rfl
 simp_all
theorem aaD {k}{l:List zJ}(hk:l.length+5≤k)(hl:l.length≤400):Rt k l=some (vT l):=by
 unfold Rt;obtain ⟨s', h1, h2⟩ := vA (L := fun n i (s : List yD) => Mr k n l i s) (N := l.length) (fun s => s) (fun i s => s = vT (l.take i)) (fun n s _=>by
  show G2 k _ l l.length s=_;unfold G2;simp) (fun n i s hi hs=>by
  refine⟨_,?_,(yY5 l i hi).symm⟩;show G2 k _ l i s=_;unfold G2;have dP:s.length≤900:=by
   rw[hs,G0,bZ];omega
  obtain⟨j,rfl⟩:∃j,k=j+5:=⟨k-5,by omega⟩;have e2:zL (s.length+2) 64=true:=qF;simp[qB,aa hi,e2,qD hi (by grind)];rw[hs];rfl) (s:=[]) (show l.length<k by omega) rfl
 simp_all
theorem eq8 (p q:yD):((decide (p.1=q.1))&&((decide (p.2.1=q.2.1))&&((decide (p.2.2.1=q.2.2.1))&&((decide (p.2.2.2.1=q.2.2.2.1))&&((decide (p.2.2.2.2.1=q.2.2.2.2.1))&&((decide (p.2.2.2.2.2.1=q.2.2.2.2.2.1))&&((decide (p.2.2.2.2.2.2.1=q.2.2.2.2.2.2.1))&&(decide (p.2.2.2.2.2.2.2=q.2.2.2.2.2.2.2)))))))))=decide (p=q):=by
 grind
theorem vQx {k}{a b:List yD}(hk:a.length<k)(hl:a.length<9223372036854775808):Ms k a b=some (decide (a=b)):=by
 unfold Ms;by_cases hlen:a.length=b.length
 case neg=>
  have e:decide (((a.length:Nat):Int)=((b.length:Nat):Int))=false:=by grind
  have:a≠b:=by grind
  simp_all
 have e:decide (((a.length:Nat):Int)=((b.length:Nat):Int))=true:=by grind
 have := eQ (L := fun n i => Mt k n a b i) (N := a.length) (fun i => decide (a.getD i od = b.getD i od)) (.inl ()) (.inr false) (fun n=>by
  show G3 k _ a b a.length=_;unfold G3;simp) (fun n i hi=>by
  show G3 k _ a b i=_;unfold G3;have e8:=eq8 (a.getD i od) (b.getD i od);simp only[qB,qD hi hl];simp_all) hk
 rw[this,Lf od hlen];grind
def ga (q:zJ)(o:yD):Bool:=decide (o.2.2.1=q.1)&&(decide (o.1=q.2.1)&&(decide (o.2.1=21)||(decide (o.2.1=22)||decide (o.2.1=18))))
def lf (q:zJ)(o:List yD):Nat:=o.countP (ga q)
theorem Cx q a b:lf q (a++b)=lf q a+lf q b:=List.countP_append
theorem qVn {f:zJ→Bool}{q:zJ}:∀{ps:List zJ},qP ps→q∈ps→f q=true→(∀p∈ps,f p=true→p.1=q.1)→ps.countP f=1
 |[],_,h,_,_=>by cases h
 |p::ps,hd,hq,hf,hu=>by
  have hc:=List.pairwise_cons.1 hd;rw[List.countP_cons];rcases List.mem_cons.1 hq with rfl|hq
  ·rw[hf,if_pos rfl];have:ps.countP f=0:=by
    rw[List.countP_eq_zero];intro r hr BL;exact hc.1 r hr (hu r (List.mem_cons_of_mem _ hr) BL).symm
   omega
  ·have:f p=false:=by
    cases h:f p with
    |false=>rfl
    |true=>exact absurd (hu p (List.mem_cons_self ..) h) (hc.1 q hq)
   rw[this,qVn hc.2 hq hf (fun r hr=>hu r (List.mem_cons_of_mem _ hr))];rfl
def wX (kd:Int)(p:zJ):yD:=(p.2.1,kd,p.1,0,0,0,0,0)
theorem G4 {kd:Int}(hk:kd=21∨kd=22){q:zJ}{ps:List zJ}(hd:qP ps):(q∈ps→lf q (ps.map (wX kd))=1)∧((∀p∈ps,p.1≠q.1)→lf q (ps.map (wX kd))=0):=by
 unfold lf;rw[List.countP_map];constructor
 ·intro h;apply qVn hd h
  ·show ga q (wX kd q)=true;unfold ga wX;rcases hk with rfl|rfl<;>simp
  ·intro p hp hf;have eu:ga q (wX kd p)=true:=hf;unfold ga wX at eu;rw[aR,ba] at eu;exact eu.1
 ·intro h;rw[List.countP_eq_zero];intro p hp hf;have eu:ga q (wX kd p)=true:=hf;unfold ga wX at eu;rw[aR,ba] at eu;exact h p hp eu.1
theorem yKn q:∀d,lf q (vT d)=d.countP (fun p=>ga q (fI p.2.1 p))+d.countP (fun p=>ga q (fI p.2.2.1 p))
 |[]=>rfl
 |p::d=>by
  show lf q (tj p++vT d)=_;rw[Cx,yKn q d,List.countP_cons,List.countP_cons];have e:lf q (tj p)=(if ga q (fI p.2.1 p)=true then 1 else 0)+(if ga q (fI p.2.2.1 p)=true then 1 else 0):=by
   unfold lf tj;grind
  omega
theorem Ru {n:Nat}{q:zJ}{d:List zJ}(hd:qP d)(hm:∀p∈d,yR n p):(q∈d→lf q (vT d)=1)∧((∀p∈d,p.1≠q.1)→lf q (vT d)=0):=by
 have h2:∀(l:List zJ),qP l→(∀p∈l,yR n p)→(q∈l∨∀p∈l,p.1≠q.1)→l.countP (fun p=>ga q (fI p.2.2.1 p))=0:=by
  intro l tm GH hq;rw[List.countP_eq_zero];intro p hp hf;have eu:ga q (fI p.2.2.1 p)=true:=hf;unfold ga fI at eu;rw[aR,aR,ba,ba] at eu;rcases hq with hq|hq
  ·have:=tm.eq_of hp hq eu.1;subst this;exact(GH p hp).ne eu.2.1.symm
  ·exact hq p hp eu.1
 rw[yKn];constructor
 ·intro h;rw[h2 d hd hm (.inl h),qVn hd h]
  ·show ga q (fI q.2.1 q)=true;unfold ga fI;simp
  ·intro p hp hf;have eu:ga q (fI p.2.1 p)=true:=hf;unfold ga fI at eu;rw[aR,ba] at eu;exact eu.1
 ·intro h;rw[h2 d hd hm (.inr h)];have:d.countP (fun p=>ga q (fI p.2.1 p))=0:=by
   rw[List.countP_eq_zero];intro p hp hf;have eu:ga q (fI p.2.1 p)=true:=hf;unfold ga fI at eu;rw[aR,ba] at eu;exact h p hp eu.1
  omega
def yu (B:BT)(i:Nat):yD:=((i:Int),23,(B.1.getD i ad).1,0,0,0,0,0)
def je (B:BT)(n:Nat):List yD:=(List.range n).map (yu B)
theorem vDn q B n:lf q (je B n)=0:=by
 unfold lf je;rw[List.countP_map,List.countP_eq_zero];intro i _ hf;have eu:ga q (yu B i)=true:=hf;unfold ga yu at eu;simp at eu
theorem vHf B i:je B (i+1)=je B i++[yu B i]:=by
 unfold je;rw[List.range_succ,List.map_append];rfl
theorem vJj {α β:Type}(f:α→β)(l:List α) i d (h:i<l.length):(l.take (i+1)).map f=(l.take i).map f++[f (l.getD i d)]:=by
 rw[←fE l i d h,List.map_append];rfl
theorem vCd {k B}(hB:B.1.length≤6)(hk:200≤k){m:List zJ}(hm:m.length≤100) t pr ho ids to ov:
  Rv k t B.1 B.2.1 B.2.2.1 B.2.2.2 pr ho m ids to ov=some (t,B.1,B.2.1,B.2.2.1,B.2.2.2,pr,ho,[],ids,to,true,m.map (wX 22)++je B B.1.length):=by
 unfold Rv;obtain ⟨s', h1, h2⟩ := vA (L := fun n i (s : List yD) => G5 k n m m.length i t B.1 B.2.1 B.2.2.1 B.2.2.2 pr ho m ids to ov 0 0 false s) (N := m.length) (fun s => (t, B.1, B.2.1, B.2.2.1, B.2.2.2, pr, ho, m, ids, to, ov, 0, 0, false, s)) (fun i s => s = (m.take i).map (wX 22)) (fun n s _=>by
  show G6 k _ m m.length m.length t B.1 B.2.1 B.2.2.1 B.2.2.2 pr ho m ids to ov 0 0 false s=_;unfold G6;simp) (fun n i s hi hs=>by
  refine⟨_,?_,(vJj (wX 22) m i pd hi).symm⟩;show G6 k _ m m.length i t B.1 B.2.1 B.2.2.1 B.2.2.2 pr ho m ids to ov 0 0 false s=_;unfold G6;have dP:s.length≤900:=by grind
  have G7:rr k (m.getD i pd).2.1 22 [(m.getD i pd).1]=some (wX 22 (m.getD i pd)):=rfl;simp only[qB,qZ,ao,aa hi,ag,G7,ae,yq (show s.length≤9999 by omega),qD hi (by grind)];rw[hs]) (s:=[]) (show m.length<k by omega) rfl
 have fa:G5 k k m m.length 0 t B.1 B.2.1 B.2.2.1 B.2.2.2 pr ho m ids to ov 0 0 false []=_:=h1;rw[fa,h2,List.take_length];obtain ⟨s2, g1, g2⟩ := vA (L := fun n i (s : List yD) => Mu k n B.1 B.1.length i t B.1 B.2.1 B.2.2.1 B.2.2.2 pr ho m ids to ov 0 0 false s) (N := B.1.length) (fun s => (t, B.1, B.2.1, B.2.2.1, B.2.2.2, pr, ho, m, ids, to, ov, 0, 0, false, s)) (fun i s => s = m.map (wX 22) ++ je B i) (fun n s _=>by
  show G8 k _ B.1 B.1.length B.1.length t B.1 B.2.1 B.2.2.1 B.2.2.2 pr ho m ids to ov 0 0 false s=_;unfold G8;simp) (fun n i s hi hs=>by
  refine⟨_,?_,(show m.map (wX 22)++je B i++[yu B i]=m.map (wX 22)++je B (i+1) by rw[vHf,List.append_assoc])⟩;show G8 k _ B.1 B.1.length i t B.1 B.2.1 B.2.2.1 B.2.2.2 pr ho m ids to ov 0 0 false s=_;unfold G8;have dP:s.length≤900:=by
   rw[hs,ay,List.length_map];unfold je;grind
  have G7:rr k i 23 [(B.1.getD i ad).1]=some (yu B i):=rfl;have ho3:rr k i 23 [(B.1.getD i (0,0,0)).1]=some (yu B i):=G7;simp only[qB,qZ,ao,aa hi,ag,ho3,ae,yq (show s.length≤9999 by omega),qD hi (by grind)];rw[hs]) (s:=m.map (wX 22)) (show B.1.length<k by omega) (by show _=_++[];simp)
 simp_all
def vG (t:Int)(p:zJ):Bool:=decide (t>p.2.2.2.2.2.2)
theorem vHa {k:Nat}(hk:200≤k){m:List zJ}(hm:m.length≤100)(pa:Int)(as:List (Int×Int))(cu cl pe t:Int)(B:BT)(pr:AC)(ho:EQ)(ids:AC)(to:Int)(ov:Bool):
  G9 k k m m.length 0 pa as cu cl pe t B.1 B.2.1 B.2.2.1 B.2.2.2 pr ho m ids to ov 0 0 false [] []=some (pa,as,cu,cl,pe,t,B.1,B.2.1,B.2.2.1,B.2.2.2,pr,ho,m,ids,to,ov,0,0,false,(m.filter (vG t)).map (wX 21),m.filter (fun p=> !vG t p)):=by
 obtain ⟨s', h1, h2, h3⟩ := vA (L := fun n i (s : List yD × List zJ) => G9 k n m m.length i pa as cu cl pe t B.1 B.2.1 B.2.2.1 B.2.2.2 pr ho m ids to ov 0 0 false s.1 s.2) (N := m.length) (fun s => (pa, as, cu, cl, pe, t, B.1, B.2.1, B.2.2.1, B.2.2.2, pr, ho, m, ids, to, ov, 0, 0, false, s.1, s.2)) (fun i s => s.1 = ((m.take i).filter (vG t)).map (wX 21) ∧ s.2 = (m.take i).filter (fun p => !vG t p)) (fun n s _=>by
  show Ha k _ m m.length m.length pa as cu cl pe t B.1 B.2.1 B.2.2.1 B.2.2.2 pr ho m ids to ov 0 0 false s.1 s.2=_;unfold Ha;simp only [qZ, ab (Nat.lt_irrefl _), ak]) (fun n i s hi hs=>by
  have ua:s.1.length≤900:=by
   rw[hs.1,List.length_map];have:=List.length_filter_le (vG t) (m.take i);rw[bZ] at this;omega
  have nT:s.2.length≤900:=by
   rw[hs.2];have:=List.length_filter_le (fun p=> !vG t p) (m.take i);rw[bZ] at this;omega
  show∃s',Ha k _ m m.length i pa as cu cl pe t B.1 B.2.1 B.2.2.1 B.2.2.2 pr ho m ids to ov 0 0 false s.1 s.2=_∧_;unfold Ha yA8;have G7:rr k (m.getD i pd).2.1 21 [(m.getD i pd).1]=some (wX 21 (m.getD i pd)):=rfl;simp only[pd] at G7;simp only[qB,qZ,ao,aa hi,ag,G7,ae,yq (show s.1.length≤9999 by omega),ot (show s.2.length≤9999 by omega),qD hi (show m.length<9223372036854775808 by omega)];have f1:=Ch (vG t) m i pd hi;have f2:=Ch (fun p=> !vG t p) m i pd hi;cases hb:vG t (m.getD i pd) with
  |true=>
   have bg:decide (t>(m.getD i (0,0,0,0,0,0,0)).2.2.2.2.2.2)=true:=hb;rw[bg];refine⟨(s.1++[wX 21 (m.getD i pd)],s.2),rfl,?_,?_⟩
   ·show s.1++_=_;rw[f1,hb,hs.1];simp
   ·show s.2=_;rw[f2,hb,hs.2];simp
  |false=>
   have bg:decide (t>(m.getD i (0,0,0,0,0,0,0)).2.2.2.2.2.2)=false:=hb;rw[bg];refine⟨(s.1,s.2++[m.getD i pd]),rfl,?_,?_⟩
   ·show s.1=_;rw[f1,hb,hs.1];simp
   ·show s.2++_=_;rw[f2,hb,hs.2];simp) (s:=([],[])) (show m.length<k by omega) ⟨rfl,rfl⟩
 have:=h1.trans (by rw[h2,h3,List.take_length]);exact this
structure vQ3 (t cl:Int) (B C:BT) (m m':List zJ) (ov:Bool) (o:List yD):Prop where
 bk:qX C
 bl:C.1.length=B.1.length
 sub:List.Sublist m' m
 over:ov=decide (t+1=cl)
 none:ov=true→m'=[]
 late:ov=false→∀p∈m',vG (t+1) p=false
 Re:∀p∈m',lf p o=0
 iH:∀p∈m,p∉m'→lf p o=1
 quiet:∀q:zJ,(∀p∈m,p.1≠q.1)→lf q o=0
 room:o.length+2*m'.length≤2*m.length+(if ov=true then 6 else 0)
theorem qP.not_in {l m d:List zJ}(hd:qP (d++m)){p}(hp:p∈m):∀q∈d,q.1≠p.1:=fun q hq=>(List.pairwise_append.1 hd).2.2 q hq p hp
structure gb (B C:BT):Prop where
 len:C.1.length=B.1.length
 sum:qJ (fun i=>(C.1.getD i ad).1) B.1.length=qJ (fun i=>(B.1.getD i ad).1) B.1.length
 cred:∀i,i<B.1.length→(C.1.getD i ad).2.1=(B.1.getD i ad).2.1
 bil:C.2.1=B.2.1
 mul:C.2.2.1=B.2.2.1
 fell:∀i,i<B.1.length→(C.1.getD i ad).1<(B.1.getD i ad).1→0≤(C.1.getD i ad).1+(C.1.getD i ad).2.1
theorem gb.refl B:gb B B:=⟨rfl,rfl,by simp,rfl,rfl,by simp⟩
theorem gb.trans {B C D}(h:gb B C)(g:gb C D):gb B D:=
 ⟨g.len.trans h.len,by have:=g.sum;rw[h.len] at this;exact this.trans h.sum,fun i hi=>(g.cred i (by rw[h.len];exact hi)).trans (h.cred i hi),g.bil.trans h.bil,g.mul.trans h.mul,fun i hi=>by
  have h1:=h.fell i hi;have h2:=g.fell i (by rw[h.len];exact hi);have h3:=g.cred i (by rw[h.len];exact hi);omega⟩
theorem yOi i:∀{l},(∀p∈l,0≤p.2.2.2.1)→0≤zQ (gB i) l+(zQ (gN i) l+zQ (gR i) l)
 |[],_=>Int.le_refl _
 |p::l,h=>by
  have h1:=yOi i fun q hq=>h q (List.mem_cons_of_mem _ hq)
  have h2:=h p (by simp);have h3:0≤gB i p+(gN i p+gR i p):=by
   unfold gB gN gR;omega
  show 0≤gB i p+zQ (gB i) l+(gN i p+zQ (gN i) l+(gR i p+zQ (gR i) l));omega
theorem aaE {a a' b p p' m l}(x:uN a.length a p l a' p')(hf:ye a b m p l=true)(hl:∀q∈l,yR a.length q){i}(hi:i<a.length):
  (a'.getD i ad).1<(a.getD i ad).1→0≤(a'.getD i ad).1+(a'.getD i ad).2.1:=by
 have h1:=yOi i (l:=l) fun q hq=>by have:=(hl q hq).a1;omega
 unfold ye at hf;rw[aR] at hf;have h2:=wJ.1 hf.2 i hi;unfold gZ at h2;rw[x.acct i hi];grind
theorem yS9 {B}(h:qX B){l}(hf:yj B l=true){r}(hp:sY B.1 B.2.1 B.2.2.1 B.2.2.2 l r):gb B (r.1,r.2.1,r.2.2.1,r.2.2.2.1):=by
 have hs:=(Re h hp).1;by_cases c:wH B.1.length l
 ·obtain⟨a',p',x,e⟩:=hp.1 c;cases hi:kY a' B.2.1 B.2.2.1 p' with
  |false=>rw[hi] at e;subst e;exact gb.refl B
  |true=>
   rw[hi] at e;subst e;exact⟨x.al,hs,fun i bI=>by show(a'.getD i ad).2.1=_;rw[x.acct i bI],rfl,rfl,fun i bI=>aaE x hf c.1 bI⟩
 ·rw[hp.2 c];exact gb.refl B
theorem vHu {k}(hk:100<k){B C}(h:qX B){l}(hl:l.length≤80)(hg:iH k B l=some C):gb B C:=by
 obtain⟨r,h1,h3⟩:=QE hk h hl;unfold iH at hg;rw[h1] at hg;simp only at hg;cases hc:decide (r.2.2.2.2=0)&&yj B l with
 |false=>simp_all
 |true=>
  rw[hc] at hg;simp  at hg;subst hg;rw[aR] at hc;exact yS9 h hc.2 h3
theorem g9.keptC {k}(hk:100<k){t B C l done m}(h:g9 k t B l done C m)(hb:qX B):gb B C:=by
 induction h with
 |stop _=>exact gb.refl _
 |@step B C D l m done p h h' ih=>
  have hg:=(Cq h).2;exact(vHu hk hb (by simp) hg).trans (ih (tf hk hb (by simp) hg).1)
theorem ek.keptC {k}(hk:100<k){t B C l done m}(h:ek k t B l done C m)(hb:qX B):gb B C:=by
 induction h with
 |stop _=>exact gb.refl _
 |@step B C D l m done p q h h' ih=>
  have hg:=(Ri h).2.2.2;exact(vHu hk hb (by simp) hg).trans (ih (tf hk hb (by simp) hg).1)
theorem g9.bk {k}(hk:100<k){t B C l done m}(h:g9 k t B l done C m)(hb:qX B):qX C:=by
 induction h with
 |stop _=>exact hb
 |step h h' ih=>exact ih (tf hk hb (by simp) (Cq h).2).1
theorem ek.bk {k}(hk:100<k){t B C l done m}(h:ek k t B l done C m)(hb:qX B):qX C:=by
 induction h with
 |stop _=>exact hb
 |step h h' ih=>exact ih (tf hk hb (by simp) (Ri h).2.2.2).1
theorem mF.keptC {k}(hk:100<k){t B C l done m}(h:mF k t B l done C m)(hb:qX B):gb B C:=by
 induction h with
 |stop h1 _=>exact h1.keptC hk hb
 |step h1 h2 ne h' ih=>
  have b1:=h1.bk hk hb;exact((h1.keptC hk hb).trans (h2.keptC hk b1)).trans (ih (h2.bk hk b1))
theorem aaF {k}(hk:200≤k){B}(hb:qX B){l:List zJ}(hl:∀q∈l,yR B.1.length q)(bU:l.length≤64) t {C:BT}{m done:List zJ}(hr:Cv k B.1 B.2.1 B.2.2.1 B.2.2.2 l t=some (C.1,C.2.1,C.2.2.1,C.2.2.2,m,done)):gb B C:=by
 obtain⟨f,n,h,hn⟩:=qT9 hb hl bU t;have sm:=yo l t;have cP:=ym (vE l t) f;have Rp:=cP.length_le;obtain⟨r,h1,h3⟩:=QE (k:=k) (by omega) hb (l:=vM (vE l t) f) (by omega);have g1:=qO7 (k:=k) (by omega) hb hl bU t (by omega) h h1;unfold GO at g1;rw[g1] at hr;cases c:decide (r.2.2.2.2=0) with
 |false=>
  rw[c] at hr;simp  at hr;obtain⟨e1,e2,e3,e4,_⟩:=hr;have:B=C:=by grind
  rw[←this];exact gb.refl B
 |true=>
  have:(r.1,r.2.1,r.2.2.1,r.2.2.2.1)=C:=by grind
  rw[←this];refine yS9 hb ?_ h3;have hw:=Mi (Mj (t:=t) hl) (by omega) f;have hs:=aap.1 h.final;unfold yj ye;rw[B9.2 hw.1,aa hw.2];simp;rw[wJ];intro j hj;have:=hs j hj;unfold uZ at this;simp_all
theorem aaG {C D:BT}{m n d e:List zJ}(h:(C.1,C.2.1,C.2.2.1,C.2.2.2,m,d)=(D.1,D.2.1,D.2.2.1,D.2.2.2,n,e)):C=D∧m=n∧d=e:=by
 grind
theorem vCp {k}(hk:200≤k){B}(hb:qX B){l}(hd:qP l)(hl:∀q∈l,yR B.1.length q)(bU:l.length≤64) t all {X:BT}{mx dx:List zJ}
  (hr:yp k B.1 B.2.1 B.2.2.1 B.2.2.2 l t all=some (X.1,X.2.1,X.2.2.1,X.2.2.2,mx,dx)):gb B X:=by
 obtain⟨C,m,d,f1,f2,f3,f4,f5⟩:=GZ hk hb hd (by omega) t;have q1:=f2.keptC (by omega) hb;have p1:=f2.perm hd;have l1:=p1.length_eq;rw[ay] at l1;unfold yp at hr;rw[f1] at hr;simp only[ae] at hr;cases all with
 |false=>
  grind
 |true=>
  have hm:qP m:=List.Pairwise.sublist f5 hd;have Pl:∀q∈m,yR C.1.length q:=fun q hq=>by grind
  obtain⟨D,n,x,g1,g2,g3,g4,g5,g6⟩:=qVs hk f3 hm Pl (by omega) t;have q2:=aaF hk f3 Pl (by omega) t g1;have l2:=g5.length_eq;rw[ay] at l2;rw[g1] at hr;simp only[ae] at hr;cases x with
  |nil=>
   grind
  |cons p x=>
   have e1:decide ((((p::x).length:Nat):Int)=0)=false:=by grind
   rw[e1] at hr;simp only[ak] at hr;have hn:qP n:=List.Pairwise.sublist g4 hm;obtain⟨E,o,y,k1,k2,k3,k4,k5⟩:=GZ hk g2 hn (by omega) t;have q3:=k2.keptC (by omega) g2;have p3:=k2.perm hn;have l3:=p3.length_eq;rw[ay] at l3;have r1:zL (d.length+(p::x).length) 56=true:=by grind
   have r2:zL ((d++(p::x)).length+y.length) 56=true:=by grind
   rw[k1] at hr;simp only[ae,r1,r2,ag] at hr;have so:some (E.1,E.2.1,E.2.2.1,E.2.2.2,o,d++(p::x)++y)=some (X.1,X.2.1,X.2.2.1,X.2.2.2,mx,dx):=hr;rw[←(aaG (Option.some.inj so)).1];exact(q1.trans q2).trans q3
end Go.Ab.Gi
