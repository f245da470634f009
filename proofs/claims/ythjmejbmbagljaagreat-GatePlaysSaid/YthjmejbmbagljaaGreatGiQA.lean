/- Plain proofs, part 0. -/
import Derived.Test.YthjmejbmbagljaaGreatGiAbC
import Derived.Test.YthjmejbmbagljaaGreatGiXS
set_option linter.unusedVariables false
set_option linter.unusedSimpArgs false
set_option maxRecDepth 100000
set_option linter.unusedSectionVars false
namespace Go.Ab
theorem ara n(h:n≠0:=by omega):∃m,n=m+1:=⟨n-1,by omega⟩
theorem aa {p:Prop}[Decidable p](h:p:=by omega):decide p=true:=decide_eq_true h
theorem ab {p:Prop}[Decidable p](h:¬p:=by omega):decide p=false:=decide_eq_false h
theorem uE {p:Prop}[Decidable p](h:decide p=true):p:=of_decide_eq_true h
theorem gW {p:Prop}[Decidable p](h:decide p=false):¬p:=of_decide_eq_false h
theorem aZ {p:Prop}[Decidable p]:(decide p=true)=p:=decide_eq_true_eq
theorem ae {α β:Type}(a:α)(f:α→Option β):(some a).bind f=f a:=rfl
theorem ai {α:Type}(a b:α):cond true a b=a:=rfl
theorem ak {α:Type}(a b:α):cond false a b=b:=rfl
theorem ao (n:Nat):(n:Int).toNat=n:=rfl
theorem aR (a b:Bool):((a&&b)=true)=(a=true∧b=true):=Bool.and_eq_true a b
theorem aB:(!true)=false:=rfl
theorem bN:(!false)=true:=rfl
theorem aA {α:Type}{a b:List α}:(a++b).length=a.length+b.length:=List.length_append
theorem bX {α:Type}{l:List α}{i:Nat}{a:α}:l.getD i a=l[i]?.getD a:=List.getD_eq_getElem?_getD
theorem bY {α:Type}{i:Nat}{l:List α}:(l.take i).length=min i l.length:=List.length_take
end Go.Ab
namespace Go.Ab
theorem zQ {x:Int}(h1:-9223372036854775808≤x:=by omega)(h2:x<9223372036854775808:=by omega):zA x=x:=by
 unfold zA IntKind.wrap;simp only[IntKind.bits,IntKind.signed,Bool.true_and];by_cases h:x%2^64≥2^(64-1)
 ·rw[if_pos (by simpa using h)];omega
 ·rw[if_neg (by simpa using h)];omega
theorem X4 (x:Int):-9223372036854775808≤zA x:=by
 unfold zA IntKind.wrap;simp only[IntKind.bits,IntKind.signed,Bool.true_and];by_cases h:x%2^64≥2^(64-1)
 ·rw[if_pos (by simpa using h)];omega
 ·rw[if_neg (by simpa using h)];omega
theorem X5 (x:Int):zA x<9223372036854775808:=by
 unfold zA IntKind.wrap;simp only[IntKind.bits,IntKind.signed,Bool.true_and];by_cases h:x%2^64≥2^(64-1)
 ·rw[if_pos (by simpa using h)];omega
 ·rw[if_neg (by simpa using h)];omega
theorem qD {i N:Nat}(h:i<N)(hN:N<9223372036854775808):zA ((i:Int)+1)=((i+1:Nat):Int):=by
 rw[zQ];rfl
theorem wfi {n}(h:(Lit.int .i64 n).wf=true):-9223372036854775808≤n∧n<9223372036854775808:=by
 simp[Lit.wf,IntKind.min,IntKind.bits] at h;grind
theorem qA (i n:Nat):zB (i:Int) n=decide (i<n):=by
 unfold zB;simp
theorem jB {i:Int}{n:Nat}(h0:0≤i:=by omega)(h1:i<n:=by omega):zB i n=true:=by
 unfold zB;simp;omega
theorem qG {n b}(h:n*b≤140737488355328:=by omega)(h':n≤140737488355328:=by omega):zO n b=true:=by
 simp_all
theorem qV (i n:Nat):decide ((i:Int)<(n:Int))=decide (i<n):=by simp
theorem sM (i n:Nat):decide ((i:Int)=(n:Int))=decide (i=n):=by
 by_cases h:i=n
 ·subst h;simp
 ·rw[ab h,ab]
def qB (p:Nat→Bool):Nat→Nat→Bool
 |0,_=>true
 |c+1,i=>p i&&qB p c (i+1)
theorem yJj {p:Nat→Bool}:∀{c i:Nat},qB p c i=true↔∀j,i≤j→j<i+c→p j=true
 |0,i=>by simp[qB];intro j h1 h2;omega
 |c+1,i=>by
  simp only[qB,aR,yJj (c:=c)];constructor
  ·rintro⟨h1,h2⟩ j h3 h4
   by_cases e:j=i
   ·subst e;exact h1
   ·exact h2 j (by omega) (by omega)
  ·intro h;exact⟨h i (Nat.le_refl i) (by omega),fun j h1 h2=>h j (by omega) (by omega)⟩
theorem wI {p c}:qB p c 0=true↔∀j,j<c→p j=true:=by
 rw[yJj];simp
theorem X6 {X:Type}{L:Nat→Int→Option X}{N:Nat} ok a b (bL:∀n,L (n+1) (N:Int)=some a)
  (aI:∀n i,i<N→L (n+1) (i:Int)=bif ok i then L n ((i+1:Nat):Int) else some b):∀c i n,i+c=N→c<n→L n (i:Int)=some (bif qB ok c i then a else b)
 |0,i,n,h,hn=>by
  obtain⟨n,rfl⟩:=ara n;have:i=N:=by omega
  subst this;exact bL n
 |c+1,i,n,h,hn=>by
  obtain⟨n,rfl⟩:=ara n;rw[aI n i (by omega)];unfold qB;cases ok i with
  |false=>rfl
  |true=>
   exact X6 ok a b bL aI c (i+1) n (by omega) (by omega)
theorem fg {X:Type}{L:Nat→Int→Option X}{N:Nat} ok a b (bL:∀n,L (n+1) (N:Int)=some a)
  (aI:∀n i,i<N→L (n+1) (i:Int)=bif ok i then L n ((i+1:Nat):Int) else some b) {n} (hn:N<n):L n 0=some (bif qB ok N 0 then a else b):=
 X6 ok a b bL aI N 0 n (by omega) hn
theorem vF2 {L:Nat→Int→Option (Unit⊕Int)}{N:Nat}(bad:Nat→Bool)(bL:∀n,L (n+1) (N:Int)=some (.inl ()))
  (aI:∀n i,i<N→L (n+1) (i:Int)=bif bad i then some (.inr (i:Int)) else L n ((i+1:Nat):Int)):
  ∀c i n,i+c=N→c<n→(qB (fun j=> !bad j) c i=true∧L n (i:Int)=some (.inl ()))∨∃x:Nat,i≤x∧x<N∧bad x=true∧(∀j,i≤j→j<x→bad j=false)∧qB (fun j=> !bad j) c i=false∧L n (i:Int)=some (.inr (x:Int))
 |0,i,n,h,hn=>by
  obtain⟨n,rfl⟩:=ara n;have:i=N:=by omega
  subst this;exact .inl ⟨rfl,bL n⟩
 |c+1,i,n,h,hn=>by
  obtain⟨n,rfl⟩:=ara n;rw[aI n i (by omega)];unfold qB;cases hb:bad i with
  |true=>exact .inr ⟨i,Nat.le_refl i,by omega,hb,fun j h1 h2=>absurd h1 (by omega),rfl,rfl⟩
  |false=>
   simp only[ak,bN,Bool.true_and];rcases vF2 bad bL aI c (i+1) n (by omega) (by omega) with h1|⟨x,x1,x2,x3,x4,x5,x6⟩
   ·exact .inl h1
   ·refine .inr ⟨x,by omega,x2,x3,fun j h1 h2=>?_,x5,x6⟩;by_cases e:j=i
    ·subst e;exact hb
    ·exact x4 j (by omega) h2
theorem qi {L:Nat→Int→Option (Unit⊕Int)}{N:Nat}(bad:Nat→Bool)(bL:∀n,L (n+1) (N:Int)=some (.inl ()))
  (aI:∀n i,i<N→L (n+1) (i:Int)=bif bad i then some (.inr (i:Int)) else L n ((i+1:Nat):Int)) {n:Nat} (hn:N<n):
  ∃x:Unit⊕Int,L n 0=some x∧decide ((match x with|.inl _=>(-1:Int)|.inr y=>y)≥0)= !qB (fun j=> !bad j) N 0:=by
 rcases vF2 bad bL aI N 0 n (by omega) hn with⟨h1,h2⟩|⟨x,_,_,_,_,h5,h6⟩
 ·exact⟨_,h2,by rw[h1];rfl⟩
 ·exact⟨_,h6,by rw[h5];simp⟩
theorem yT8 {S X:Type}{L:Nat→Int→S→Option X}{N}(e:S→X)(inv:Nat→S→Prop)(bL:∀n s,inv N s→L (n+1) (N:Int) s=some (e s))
  (aI:∀n i s,i<N→inv i s→∃s',L (n+1) (i:Int) s=L n ((i+1:Nat):Int) s'∧inv (i+1) s'):
  ∀c i n s,i+c=N→c<n→inv i s→∃s',L n (i:Int) s=some (e s')∧inv N s'
 |0,i,n,s,h,hn,hs=>by
  obtain⟨n,rfl⟩:=ara n;grind
 |c+1,i,n,s,h,hn,hs=>by
  obtain⟨n,rfl⟩:=ara n;obtain⟨s',h1,h2⟩:=aI n i s (by omega) hs;rw[h1];exact yT8 e inv bL aI c (i+1) n s' (by omega) (by omega) h2
theorem vB {S X:Type}{L:Nat→Int→S→Option X}{N}(e:S→X)(inv:Nat→S→Prop)(bL:∀n s,inv N s→L (n+1) (N:Int) s=some (e s))
 (aI:∀n i s,i<N→inv i s→∃s',L (n+1) (i:Int) s=L n ((i+1:Nat):Int) s'∧inv (i+1) s') {n s} (hn:N<n) (hs:inv 0 s):
 ∃s',L n 0 s=some (e s')∧inv N s':=yT8 e inv bL aI N 0 n s (by omega) hn hs
def zR {α:Type}(g:α→Int):List α→Int
 |[]=>0
 |p::l=>g p+zR g l
theorem kS {α} g:∀(l m:List α),zR g (l++m)=zR g l+zR g m
 |[],m=>by simp[zR]
 |p::l,m=>by
  show g p+zR g (l++m)=g p+zR g l+zR g m;rw[kS g l m];omega
theorem BN {α g A}:∀{l:List α},(∀p∈l,-A≤g p∧g p≤A)→-(l.length*A)≤zR g l∧zR g l≤l.length*A
 |[],_=>by simp[zR]
 |p::l,h=>by
  have h1:=h p (by simp);have h2:=BN (l:=l) fun q hq=>h q (by grind)
  have e:((p::l).length:Int)*A=(l.length:Int)*A+A:=by
   rw[List.length_cons,Int.natCast_add,Int.add_mul];simp
  show-_≤g p+zR g l∧g p+zR g l≤_;omega
theorem xJ {α g}:∀{l:List α},(∀p∈l,0≤g p)→0≤zR g l
 |[],_=>by simp[zR]
 |p::l,h=>by
  have h1:=h p (by simp);have h2:=xJ (l:=l) fun q hq=>h q (by grind)
  show 0≤g p+zR g l;omega
theorem yW1 {α} g h:∀(l:List α),zR (fun p=>g p+h p) l=zR g l+zR h l
 |[]=>rfl
 |p::l=>by
  show g p+h p+zR _ l=g p+zR g l+(h p+zR h l);rw[yW1 g h l];omega
theorem X7 {α} g h:∀(l:List α),zR (fun p=>g p-h p) l=zR g l-zR h l
 |[]=>rfl
 |p::l=>by
  show g p-h p+zR _ l=g p+zR g l-(h p+zR h l);rw[X7 g h l];omega
theorem PT {α g h}:∀{l:List α},(∀p∈l,g p=h p)→zR g l=zR h l
 |[],_=>rfl
 |p::l,e=>by
  show g p+zR g l=h p+zR h l;rw[e p (by simp),PT fun q hq=>e q (by grind)]
def qI (g:Nat→Int):Nat→Int
 |0=>0
 |n+1=>qI g n+g n
theorem EU g h:∀n,qI (fun j=>g j+h j) n=qI g n+qI h n
 |0=>rfl
 |n+1=>by
  show qI _ n+(g n+h n)=qI g n+g n+(qI h n+h n);rw[EU g h n];omega
theorem sN {g h}:∀{n},(∀j,j<n→g j=h j)→qI g n=qI h n
 |0,_=>rfl
 |n+1,e=>by
  show qI g n+g n=qI h n+h n;rw[sN fun j hj=>e j (by omega),e n (by simp)]
theorem BO (c:Int)(t:Nat):∀n,qI (fun j=>if j=t then c else 0) n=if t<n then c else 0
 |0=>rfl
 |n+1=>by
  show qI _ n+(if n=t then c else 0)=_;rw[BO c t n];by_cases h:t<n
  ·rw[if_pos h,if_neg (by omega),if_pos (by omega)];omega
  ·by_cases h':n=t
   ·rw[if_neg h,if_pos h',if_pos (by omega)];omega
   ·rw[if_neg h,if_neg h',if_neg (by omega)];omega
theorem X8:∀n,qI (fun _=>0) n=0
 |0=>rfl
 |n+1=>by show qI _ n+0=0;rw[X8 n];rfl
theorem xK {g A}(h:∀j,-A≤g j∧g j≤A):∀n:Nat,-(n*A)≤qI g n∧qI g n≤n*A
 |0=>by simp[qI]
 |n+1=>by
  have h1:=h n;have h2:=xK h n;have e:((n+1:Nat):Int)*A=(n:Int)*A+A:=by
   grind
  show-_≤qI g n+g n∧qI g n+g n≤_;omega
theorem PU {α}(g:Nat→α→Int) n:∀l:List α,qI (fun j=>zR (g j) l) n=zR (fun p=>qI (fun j=>g j p) n) l
 |[]=>X8 n
 |p::l=>by
  show qI (fun j=>g j p+zR (g j) l) n=qI (fun j=>g j p) n+zR _ l;rw[EU,PU g n l]
theorem fU {α:Type}{l:List α}{i d}(h:i<l.length):l.getD i d∈l:=by
 simp_all
theorem fF {α:Type}(l:List α) i d (h:i<l.length):l.take i++[l.getD i d]=l.take (i+1):=by
 simp_all
theorem fG {α:Type}(l:List α)(i j:Nat)(a d:α):(l.set i a).getD j d=if i=j∧i<l.length then a else l.getD j d:=by
 rw[bX,bX,List.getElem?_set];by_cases h:i=j
 ·subst h;by_cases h':i<l.length<;>simp[h']
 ·simp[h]
theorem EV {α:Type}{l m:List α} d (hl:l.length=m.length)(h:∀i,i<l.length→l.getD i d=m.getD i d):l=m:=by
 apply List.ext_getElem hl;simp_all
theorem yYm m (hm:m≤62) x:yK .i64 x (2^m-1)=x%2^m:=by
 unfold yK tL;have hp:(2:Int)^m=((2^m:Nat):Int):=by rfl
 have hle:2^m≤2^62:=Nat.pow_le_pow_right (by omega) hm;have me:0<2^m:=by grind
 have e1:(BitVec.ofInt IntKind.i64.bits x&&&BitVec.ofInt IntKind.i64.bits (2^m-1)).toNat=(x%2^m).toNat:=by
  rw[BitVec.toNat_and,BitVec.toNat_ofInt,BitVec.toNat_ofInt];have e2:((2:Int)^m-1)%((2^IntKind.i64.bits:Nat):Int)=((2^m-1:Nat):Int):=by
   rw[hp];have:((2^m:Nat):Int)-1=((2^m-1:Nat):Int):=by omega
   rw[this];apply Int.emod_eq_of_lt (by omega);show((2^m-1:Nat):Int)<((2^64:Nat):Int);omega
  rw[e2,ao,Nat.and_two_pow_sub_one_eq_mod];have hx:0≤x%((2^IntKind.i64.bits:Nat):Int):=by omega
  have e3:x%2^m=(x%((2^IntKind.i64.bits:Nat):Int))%((2^m:Nat):Int):=by
   rw[hp,Int.emod_emod_of_dvd];show((2^m:Nat):Int)∣((2^64:Nat):Int);exact Int.natCast_dvd_natCast.2 (Nat.pow_dvd_pow 2 (by omega))
  grind
 rw[e1];have h0:0≤x%2^m:=by omega
 rw[Int.toNat_of_nonneg h0];exact zQ
end Go.Ab
namespace Go.Ab.Gi
open Go.Ab
def uF (s c:Int):Int:=wU .u64 (shl .u64 s 8) (IntKind.wrap .u64 c)
def iA (b:AC):Int:=zA (b.foldl uF 0)
def fi:Nat→AC→AC
 |0,_=>[]
 |m+1,b=>iA (b.take 8)::fi m (b.drop 8)
theorem PV:∀m b,(fi m b).length=m
 |0,_=>rfl
 |m+1,b=>by simp[fi,PV m]
theorem vG1:∀m b,fi (m+1) b=fi m b++[iA ((b.drop (8*m)).take 8)]
 |0,b=>by rfl
 |m+1,b=>by
  have h:=vG1 m (b.drop 8);rw[show fi (m+1+1) b=iA (b.take 8)::fi (m+1) (b.drop 8) from rfl,h];rw[List.drop_drop,show 8+8*m=8*(m+1) by omega];rfl
theorem yH6 {x:AC}{i}(h:i<x.length) s:(x.take (i+1)).foldl uF s=uF ((x.take i).foldl uF s) (x.getD i 0):=by
 rw[←fF x i 0 h,List.foldl_append];rfl
theorem X9 {k}(hk:9≤k) s0 x r0 (hx:x.length=8):EW k k s0 0 x 8 0 r0=some (s0,x.foldl uF 0,r0):=by
 obtain ⟨s, h1, h2⟩ := vB (L := fun n i (s : Int) => EW k n s0 s x 8 i r0) (N := 8) (fun s => (s0, s, r0)) (fun i s => s = (x.take i).foldl uF 0) (fun n s _ => rfl) (fun n i s hi hs=>by
  refine⟨uF s (x.getD i 0),?_,by rw[yH6 (by omega),hs]⟩;show PW k (EW k n) s0 s x 8 (i:Int) r0=_;unfold PW;rw[aa (by grind),ai,jB,ai,qD (N:=8) hi (by omega),ao];rfl) (n:=k) (s:=0) (by omega) rfl
 grind
theorem yGe {k}(hk:9≤k):∀m n b r,b.length=8*m→m<n→r.length+m≤17592186044416→EX k n b r=some (r++fi m b)
 |0,n,b,r,hb,hn,_=>by
  obtain⟨n,rfl⟩:∃x,n=x+1:=⟨n-1,by omega⟩;show EY k (EX k n) b r=_;unfold EY;rw[ab,ak];simp[fi]
 |m+1,n,b,r,hb,hn,hr=>by
  obtain⟨n,rfl⟩:∃x,n=x+1:=⟨n-1,by omega⟩;show EY k (EX k n) b r=_;unfold EY;have ht:(b.take 8).length=8:=by grind
  have e8:((b.take 8).length:Int)=8:=by omega
  rw[aa (by grind),ai,aa (by grind),ai,e8,X9 hk _ _ _ ht,ae];dsimp only;rw[qG,ai,aa (by grind),ai];rw[yGe hk m n _ _ (by grind) (by omega) (by grind)];rw[List.append_assoc];rfl
theorem yI7 (n:Nat):Int.tmod (n:Int) 8=((n%8:Nat):Int):=rfl
def fH (b:AC):AC×Int:=if b.length%8=0 then(fi (b.length/8) b,0) else([],2)
theorem Ya {k:Nat}{b:AC}(hk:9≤k)(hb:b.length<8*k)(bg:b.length≤140737488355328):sQ k b=some (fH b):=by
 unfold sQ fH;rw[yI7];by_cases h:b.length%8=0
 ·rw[if_pos h,aa,yGe hk (b.length/8) k b [] (by omega) (by omega) (by simp;omega)];rfl
 ·rw[if_neg h,ab];rfl
theorem yHd {k}(hk:9≤k) x (hx:x.length=8):KP k x=some (iA x):=by
 unfold KP;obtain ⟨s, h1, h2⟩ := vB (L := fun n i (s : Int) => KQ k n x s i) (N := 8) (fun s => s) (fun i s => s = (x.take i).foldl uF 0) (fun n s _ => rfl) (fun n i s hi hs=>by
  refine⟨uF s (x.getD i 0),?_,by rw[yH6 (by omega),hs]⟩;show PX k (KQ k n) x s (i:Int)=_;unfold PX;rw[aa (by grind),ai,jB,ai,qD (N:=8) hi (by omega),ao];rfl) (n:=k) (s:=0) (by omega) rfl
 rw[List.take_of_length_le (by omega)] at h2;subst h2;rw[h1];rfl
theorem yLf {k}(hk:9≤k) b M (hM:b.length=8*M)(hb:M≤17592186044416):∀m n j,j+m=M→m<n→BP k n b ((8*j:Nat):Int) (fi j b)=some (fi M b)
 |0,n,j,hj,hn=>by
  obtain⟨n,rfl⟩:∃x,n=x+1:=⟨n-1,by omega⟩;show EZ k (BP k n) b _ _=_;unfold EZ;simp_all
 |m+1,n,j,hj,hn=>by
  obtain⟨n,rfl⟩:∃x,n=x+1:=⟨n-1,by omega⟩;show EZ k (BP k n) b _ _=_;unfold EZ;have ew:zA (((8*j:Nat):Int)+8)=((8*(j+1):Nat):Int):=by rw[zQ];omega
  rw[ew,aa (by grind),ai,aa (by grind),aa (by grind),
   aa (by grind),ao,ao,show 8*(j+1)-8*j=8 by omega]
  have hl:(qO b (8*j) 8).length=8:=by simp[qO];omega
  rw[show(true&&true&&true)=true from rfl,ai,yHd hk _ hl,ae];rw[qG (by rw[PV];omega) (by rw[PV];omega),ai];rw[show fi j b++[iA (qO b (8*j) 8)]=fi (j+1) b from(vG1 j b).symm];exact yLf hk b M hM hb m n (j+1) (by omega) (by omega)
theorem yZm {k:Nat}{b:AC}(hk:9≤k)(hb:b.length<8*k)(bg:b.length≤140737488355328):xL k b=some (fH b):=by
 unfold xL fH;rw[yI7];by_cases h:b.length%8=0
 ·rw[if_pos h,aa];have:=yLf hk b (b.length/8) (by omega) (by omega) (b.length/8) k 0 (by omega) (by omega);show(BP k k b ((8*0:Nat):Int) (fi 0 b)).bind _=_;rw[this];rfl
 ·rw[if_neg h,ab];rfl
def yVk:AC:=[(-1),6,1,2,2,2,1,1,2,0,2,2,2,0,0,0,1,5,4,1,1,1,1,1]
def yP (x:Int):Int:=if 0≤x∧x<24 then yVk.getD x.toNat 0 else-1
theorem PY (k:Nat)(x:Int):BQ k x=some (yP x):=by
 unfold BQ yP;by_cases h:x<0
 ·rw[aa h,if_neg (by omega)];rfl
 ·rw[ab h,ak];by_cases h2:x≥24
  ·rw[aa h2,if_neg (by omega)];rfl
  ·rw[ab h2,ak,jB,ai,if_pos (by omega)];rfl
theorem KR (k:Nat)(x:Int):uG k x=some (yP x):=by
 by_cases h:0≤x∧x<24
 ·obtain⟨n,rfl⟩:∃n:Nat,x=n:=⟨x.toNat,by omega⟩;have hn:n<24:=by omega
  have:∀n:Nat,n<24→uG 0 (n:Int)=some (yP (n:Int)):=by decide
  exact this n hn
 ·have e:yP x= -1:=by unfold yP;rw[if_neg h]
  rw[e];unfold uG;have ne:∀c:Int,0≤c→c<24→decide (x=c)=false:=fun c h1 h2=>ab
  rw[ne 9 (by omega) (by omega),ne 13 (by omega) (by omega),ne 14 (by omega) (by omega),ne 15 (by omega) (by omega),ne 2 (by omega) (by omega),ne 6 (by omega) (by omega),ne 7 (by omega) (by omega),ne 16 (by omega) (by omega),
   ne 19 (by omega) (by omega),ne 20 (by omega) (by omega),ne 21 (by omega) (by omega),ne 22 (by omega) (by omega),ne 23 (by omega) (by omega),ne 3 (by omega) (by omega),ne 4 (by omega) (by omega),ne 5 (by omega) (by omega),ne 8 (by omega) (by omega),
   ne 10 (by omega) (by omega),ne 11 (by omega) (by omega),ne 12 (by omega) (by omega),ne 18 (by omega) (by omega),ne 17 (by omega) (by omega),ne 1 (by omega) (by omega)]
  rfl
def pn (b:AC):zD×Int:=
 if b=[] then((0,0,0,0,0,0,0),2)
 else if(fH (b.drop 1)).2≠0∨((fH (b.drop 1)).1.length:Int)≠yP (zA (b.getD 0 0)) then((0,0,0,0,0,0,0),2)
 else((zA (b.getD 0 0),(fH (b.drop 1)).1.getD 0 0,(fH (b.drop 1)).1.getD 1 0,(fH (b.drop 1)).1.getD 2 0,(fH (b.drop 1)).1.getD 3 0,(fH (b.drop 1)).1.getD 4 0,(fH (b.drop 1)).1.getD 5 0),0)
theorem vXf (l:AC)(i:Nat):(bif Nat.blt i l.length then l.getD i 0 else 0)=l.getD i 0:=by
 by_cases h:i<l.length
 ·rw[show Nat.blt i l.length=true by simp[Nat.blt_eq,h]];rfl
 ·rw[show Nat.blt i l.length=false by
   cases e:Nat.blt i l.length with
   |false=>rfl
   |true=>rw[Nat.blt_eq] at e;omega]
  rw[bX,List.getElem?_eq_none (by omega)];rfl
theorem vG7 {k:Nat}{b:AC}(hk:9≤k)(hb:b.length≤8*k)(bg:b.length≤140737488355328):BR k b=some (pn b):=by
 unfold BR pn;cases b with
 |nil=>rfl
 |cons c l=>
  rw[if_neg (by simp)];have e0:((c::l).length:Int)=(l.length:Int)+1:=by simp
  rw[ab,ak,aa (show(1:Int)≤((c::l).length:Int) by omega),ai,Ya hk (by simp at hb⊢;omega) (by simp at bg⊢;omega),ae];by_cases h:(fH (List.drop 1 (c::l))).2=0
  ·rw[aa h,jB (by omega) (by simp),KR];simp only[aB,ak,ai,ae];by_cases h2:((fH (List.drop 1 (c::l))).1.length:Int)=yP (zA ((c::l).getD 0 0))
   ·rw[aa h2,if_neg (fun hh=>hh.elim (fun e=>e h) fun e=>e h2)];simp only[aB,ak,vXf]
   ·rw[ab h2,if_pos (.inr h2)];rfl
  ·rw[ab h,if_pos (.inl h)];rfl
theorem E0 (x:Int):yP x≤6:=by
 unfold yP;split
 ·rename_i h;obtain⟨n,rfl⟩:∃n:Nat,x=n:=⟨x.toNat,by omega⟩;have:∀n:Nat,n<24→yVk.getD n 0≤6:=by decide
  exact this n (by omega)
 ·omega
theorem Yc k m (b0:zD) x l (hl:l.length≤6):
  PZ k (m+7) 0 b0 (x,0,0,0,0,0,0) l=some (b0,(x,l.getD 0 0,l.getD 1 0,l.getD 2 0,l.getD 3 0,l.getD 4 0,l.getD 5 0)):=by
 match l,hl with
 |[],_
  |[_],_
  |[_,_],_
  |[_,_,_],_
  |[_,_,_,_],_
  |[_,_,_,_,_],_
  |[_,_,_,_,_,_],_=>rfl
theorem yJ0 {k:Nat}{b:AC}(hk:9≤k)(hb:b.length≤8*k)(bg:b.length≤140737488355328):E1 k b=some (pn b):=by
 unfold E1 pn;cases b with
 |nil=>rfl
 |cons c l=>
  rw[if_neg (by simp)];have e0:((c::l).length:Int)=(l.length:Int)+1:=by simp
  rw[ab,ak,jB (by omega) (by simp),ai,aa (show(1:Int)≤((c::l).length:Int) by omega),ai,yZm hk (by simp at hb⊢;omega) (by simp at bg⊢;omega),ae];by_cases h:(fH (List.drop 1 (c::l))).2=0
  ·rw[aa h,PY];simp only[aB,ak,ae];by_cases h2:((fH (List.drop 1 (c::l))).1.length:Int)=yP (zA ((c::l).getD 0 0))
   ·rw[aa h2,if_neg (fun hh=>hh.elim (fun e=>e h) fun e=>e h2)];have hm:=E0 (zA ((c::l).getD 0 0));obtain⟨m,rfl⟩:∃m,k=m+7:=⟨k-7,by omega⟩;simp only[aB,ak];rw[Yc _ _ _ _ _ (by omega)];rfl
   ·rw[ab h2,if_pos (.inr h2)];rfl
  ·rw[ab h,if_pos (.inl h)];rfl
abbrev ahG:Type:=Int×List (Int×Int)×Int×Int×Int
abbrev uH:Type:=Int×List (Int×Int×Int)×EQ×AC×EQ×AC×EQ×List (Int×Int×Int×Int×Int×Int×Int)×AC×Int×Bool
abbrev lF:Type:=Int×List (Int×Int)×Int×Int×Int×Int×List (Int×Int×Int)×EQ×AC×EQ×AC×EQ×List (Int×Int×Int×Int×Int×Int×Int)×AC×Int×Bool×Int×Bool
abbrev ahH:Type:=Int×Int×Bool×Bool
def d0:wj:=(0,0,[],0,0)
abbrev dkW (ro:Int)(x:AC)(sx:Int)(y:AC)(sy cA cK op:Int):vR:=(ro,x,sx,y,sy,cA,cK,false,false,op)
def vN (n:Int)(i:Nat):Int:=IntKind.wrap .u8 (shr .i64 n (8*(i:Int)))
def fj (n:Int):AC:=[vN n 7,vN n 6,vN n 5,vN n 4,vN n 3,vN n 2,vN n 1,vN n 0]
def jM (l:AC):AC:=l.flatMap fj
theorem ql:∀l,(jM l).length=8*l.length
 |[]=>rfl
 |n::l=>by
  have:=ql l;simp[jM] at this⊢;rw[this];simp[fj];omega
theorem Yd {k n} v (i:Nat)(hi:i≤7) aP cL bm r (hr:r.length≤1000000000):
  xN k (n+1) v (i:Int) aP cL bm r=xN k n v ((i:Int)-1) aP cL bm (r++[vN v i]):=by
 show P0 k (xN k n) v (i:Int) aP cL bm r=_;unfold P0;have e8:zA (8*(i:Int))=8*(i:Int):=zQ;rw[aa (by simp),ai,e8,ab,bN,ai,qG,ai,zQ];rfl
theorem Ye {k}(hk:9≤k) v aP cL bm r (hr:r.length≤100000000):
  xN k k v 7 aP cL bm r=some (aP,cL,bm,r++fj v):=by
 have gen:∀m,xN k (m+9) v 7 aP cL bm r=some (aP,cL,bm,r++fj v):=fun m=>by
  have h:=fun n i hi r' sg=>Yd (k:=k) (n:=n) v i hi aP cL bm r' sg
  have h7:=h (m+8) 7 (by omega) r (by omega);have h6:=h (m+7) 6 (by omega) (r++[vN v 7]) (by grind);have h5:=h (m+6) 5 (by omega) ((r++[vN v 7])++[vN v 6]) (by grind);have h4:=h (m+5) 4 (by omega) (((r++[vN v 7])++[vN v 6])++[vN v 5]) (by grind);have h3:=h (m+4) 3 (by omega) ((((r++[vN v 7])++[vN v 6])++[vN v 5])++[vN v 4]) (by grind);have h2:=h (m+3) 2 (by omega) (((((r++[vN v 7])++[vN v 6])++[vN v 5])++[vN v 4])++[vN v 3]) (by grind);have h1:=h (m+2) 1 (by omega) ((((((r++[vN v 7])++[vN v 6])++[vN v 5])++[vN v 4])++[vN v 3])++[vN v 2]) (by simp;omega);have h0:=h (m+1) 0 (by omega) (((((((r++[vN v 7])++[vN v 6])++[vN v 5])++[vN v 4])++[vN v 3])++[vN v 2])++[vN v 1]) (by simp;omega);refine(h7.trans (h6.trans (h5.trans (h4.trans (h3.trans (h2.trans (h1.trans (h0.trans ?_))))))));show some (aP,cL,bm,_)=_;simp only[List.append_assoc,List.cons_append,List.nil_append];rfl
 obtain⟨m,rfl⟩:∃m,k=m+9:=⟨k-9,by omega⟩;exact gen m
theorem vAg {k}(hk:9≤k) l (hl:l.length≤1000000):∀(m n i:Nat),i+m=l.length→m<n→BS k n l (l.length:Int) (i:Int) (jM (l.take i))=some (jM l)
 |0,n,i,hi,hn=>by
  obtain⟨n,rfl⟩:∃x,n=x+1:=⟨n-1,by omega⟩;show E2 k (BS k n) l _ _ _=_;unfold E2;simp_all
 |m+1,n,i,hi,hn=>by
  obtain⟨n,rfl⟩:∃x,n=x+1:=⟨n-1,by omega⟩;show E2 k (BS k n) l _ _ _=_;unfold E2;have bd:i<l.length:=by omega
  rw[aa (by grind),ai,jB,ai,ao,
   Ye hk _ _ _ _ _ (by rw[ql,bY];omega),ae,qD (N:=l.length) bd (by omega)]
  rw[show jM (l.take i)++fj (l.getD i 0)=jM (l.take (i+1)) by
   rw[←fF l i 0 bd];simp[jM]]
  exact vAg hk l hl m n (i+1) (by omega) (by omega)
theorem E3 {k}(hk:9≤k) l (hl:l.length≤1000000)(pQ:l.length<k):xO k l=some (jM l):=by
 unfold xO;have h8:zA (8*(l.length:Int))=((8*l.length:Nat):Int):=by rw[zQ];omega
 rw[h8];have hm:pb 0 ((8*l.length:Nat):Int) 1=true:=by
  grind
 rw[hm,ai];have:=vAg hk l hl l.length k 0 (by omega) pQ;show(BS k k l (l.length:Int) ((0:Nat):Int) (jM (l.take 0))).bind _=_;simp_all
def fV (l:AC):AC:=fj (l.length:Int)++jM l
theorem Yf {k}(hk:9≤k) l (hl:l.length≤1000000)(pQ:l.length<k):P1 k l=some (fV l):=by
 unfold P1;rw[E3 hk [(l.length:Int)] (by simp) (by grind),ae,E3 hk l hl pQ,ae];rw[qG (by rw[ql,ql];grind) (by rw[ql,ql];grind)];rfl
def kT (b:AC):AC:=[IntKind.wrap .u8 (shr .i64 (b.length:Int) 8),IntKind.wrap .u8 (b.length:Int)]++b
theorem P2 k b:KS k b=some (if b.length≤60000 then(kT b,true) else([],false)):=by
 unfold KS;by_cases h:b.length≤60000
 ·rw[ab,ak,qG,if_pos h];rfl
 grind
theorem KT (x:Int):IntKind.wrap .u8 x=x%256:=by
 unfold IntKind.wrap;simp[IntKind.bits,IntKind.signed]
theorem Yg (x:Int):IntKind.wrap .u64 x=x%18446744073709551616:=by
 unfold IntKind.wrap;simp[IntKind.bits,IntKind.signed]
theorem vR3 (n:Int)(i:Nat)(hi:i≤7):vN n i=(n/2^(8*i))%256:=by
 unfold vN;rw[KT]
 congr 1
 show n.fdiv (2^(min (8*(i:Int)).toNat 64))=_;rw[show min (8*(i:Int)).toNat 64=8*i by omega];exact Int.fdiv_eq_ediv_of_nonneg _ (Int.le_of_lt (Int.pow_pos (by decide)))
def yH (l:EQ):AC:=l.flatMap fV
theorem sR l:(fV l).length=8*(l.length+1):=by
 simp[fV,ql];show 8+_=_;omega
theorem yZx {l:EQ}{i}(h:i<l.length):yH (l.take i)++fV (l.getD i [])=yH (l.take (i+1)):=by
 rw[←fF l i [] h];simp[yH]
structure jC (l:EQ):Prop where
 n:l.length≤2400
 r:∀x∈l,x.length≤2400
theorem KU {l}(h:∀x∈l,x.length≤2400):(yH l).length≤20000*l.length:=by
 induction l with
 |nil=>simp[yH]
 |cons x l ih=>
  have h1:=ih (by grind);have h2:=h x (by simp);simp[yH,sR] at h1⊢;omega
theorem Yh {k}(hk:9999≤k){l}(h:jC l):KV k l=some (yH l):=by
 have hn:=h.n;unfold KV;obtain ⟨s, h1, h2⟩ := vB (L := fun n i (s : AC) => E4 k n l (l.length : Int) i s) (N := l.length) (fun s => s) (fun i s => s = yH (l.take i)) (fun n s _=>by
  show E5 k (E4 k n) l _ _ s=_;unfold E5;simp) (fun n i s hi hs=>by
  refine⟨s++fV (l.getD i []),?_,by rw[hs,yZx hi]⟩;show E5 k (E4 k n) l _ (i:Int) s=_;unfold E5;have hr:=h.r _ (fU (d:=[]) hi);have pW:s.length≤20000*9999:=by
   have:=KU (l:=l.take i) fun x hx=>h.r x (by grind)
   grind
  rw[aa (by grind),ai,jB,ai,ao,Yf (by omega) _ (by omega) (by omega),ae,
   qG (by rw[sR];omega) (by rw[sR];omega),ai,qD (N:=l.length) hi (by omega)]) (n:=k) (s:=[]) (by omega) rfl
 simp_all
def lG (a:Int×Int×Int):AC:=[a.1,a.2.1,a.2.2]
def lH (p:Int×Int×Int×Int×Int×Int×Int):AC:=[p.1,p.2.1,p.2.2.1,p.2.2.2.1,p.2.2.2.2.1,p.2.2.2.2.2.1,p.2.2.2.2.2.2]
def iW (s:uH):EQ:=
 (((((([[s.1,s.2.2.2.2.2.2.2.2.2.1,bif s.2.2.2.2.2.2.2.2.2.2 then 1 else 0,(s.2.1.length:Int),(s.2.2.1.length:Int),(s.2.2.2.1.length:Int),(s.2.2.2.2.1.length:Int),(s.2.2.2.2.2.2.1.length:Int),(s.2.2.2.2.2.2.2.1.length:Int)]]++
  s.2.1.map lG)++s.2.2.1)++[s.2.2.2.1])++s.2.2.2.2.1)++[s.2.2.2.2.2.1])++s.2.2.2.2.2.2.1)++s.2.2.2.2.2.2.2.1.map lH++[s.2.2.2.2.2.2.2.2.1]
theorem P3 {α β:Type}(f:α→β) d {l:List α}{i}(h:i<l.length):(l.take i).map f++[f (l.getD i d)]=(l.take (i+1)).map f:=by
 rw[←fF l i d h];simp
theorem vOo {k}{l:List (Int×Int×Int)}(hl:l.length≤2400)(hk:9999≤k)(s:uH)(b) r (hr:r.length≤1000000):BU k k l (l.length:Int) 0 s b r=some (s,b,r++l.map lG):=by
 obtain ⟨t, h1, h2⟩ := vB (L := fun n i (t : EQ) => BU k n l (l.length : Int) i s b t) (N := l.length) (fun t => (s, b, t)) (fun i t => t = r ++ (l.take i).map lG) (fun n t _=>by
  show E6 k (BU k n) l _ _ s b t=_;unfold E6;simp) (fun n i t hi ht=>by
  refine⟨t++[lG (l.getD i (0,0,0))],?_,by rw[ht,List.append_assoc,P3 lG (0,0,0) hi]⟩;show E6 k (BU k n) l _ (i:Int) s b t=_;unfold E6;have:t.length≤1010000:=by grind
  rw[aa (by grind),ai,jB,ai,qG,ai,qD (N:=l.length) hi (by omega)];rfl) (n:=k) (s:=r) (by omega) (by simp)
 simp_all
theorem vNv {k}{l:List (Int×Int×Int×Int×Int×Int×Int)}(hl:l.length≤2400)(hk:9999≤k)(s:uH) r (hr:r.length≤1000000):BV k k l (l.length:Int) 0 s r=some (s,r++l.map lH):=by
 obtain ⟨t, h1, h2⟩ := vB (L := fun n i (t : EQ) => BV k n l (l.length : Int) i s t) (N := l.length) (fun t => (s, t)) (fun i t => t = r ++ (l.take i).map lH) (fun n t _=>by
  show E7 k (BV k n) l _ _ s t=_;unfold E7;simp) (fun n i t hi ht=>by
  refine⟨t++[lH (l.getD i (0,0,0,0,0,0,0))],?_,by rw[ht,List.append_assoc,P3 lH (0,0,0,0,0,0,0) hi]⟩;show E7 k (BV k n) l _ (i:Int) s t=_;unfold E7;have:t.length≤1010000:=by grind
  rw[aa (by grind),ai,jB,ai,qG,ai,qD (N:=l.length) hi (by omega)];rfl) (n:=k) (s:=r) (by omega) (by simp)
 simp_all
theorem vCw {k}(hk:9999≤k){s}(h:jC (iW s)):ni k s=some (yH (iW s)):=by
 have hn:=h.n;simp only[iW,aA,List.length_map] at hn;unfold ni;rw[show P4 k s.2.2.2.2.2.2.2.2.2.2=some (bif s.2.2.2.2.2.2.2.2.2.2 then 1 else 0) by unfold P4;grind,ae];rw[vOo (by omega) hk _ _ _ (by simp),ae];dsimp only;rw[qG (by grind) (by grind),ai,qG (by grind) (by grind),ai,qG (by simp;omega) (by grind),ai,qG (by simp;omega) (by simp;omega),ai,
  qG (by simp;omega) (by simp;omega),ai,vNv (by omega) hk _ _ (by simp;omega),ae]
 dsimp only;rw[qG (by simp;omega) (by simp;omega),ai];show(KV k (iW s)).bind (fun x1=>some x1)=_;rw[Yh hk h];rfl
structure Yi (D:vR):Prop where
 aht:D.2.2.2.2.2.2.2.1=false
 down:D.2.2.2.2.2.2.2.2.1=false
 room:0≤D.1∧D.1≤200000
 x:(D.2.1.length:Int)≤D.1
 y:(D.2.2.2.1.length:Int)≤D.1
def kU (D:vR)(i:Int):AC:=if i=0 then D.2.1 else D.2.2.2.1
theorem Yi.as {D}(h:Yi D):∃ro x sx y sy cA cK op,D=dkW ro x sx y sy cA cK op∧0≤ro∧ro≤200000∧(x.length:Int)≤ro∧(y.length:Int)≤ro:=by
 obtain⟨ro,x,sx,y,sy,cA,cK,ar,dn,op⟩:=D;obtain⟨h1,h2,h3,h4,h5⟩:=h;subst h1;subst h2;grind
structure ahI (L:wK):Prop where
 side:L.1=0∨L.1=1
 gen:1≤L.2.1∧L.2.1≤4611686018427387904
 rows:0≤L.2.2.1∧L.2.2.1≤1000000
 stale:L.2.2.2=false
theorem P5 b:(kT b).length=b.length+2:=by rfl
def P6 (l:AC):Prop:=∀x∈l,-9223372036854775808≤x∧x<9223372036854775808
abbrev yA:=Int×Int×Int
abbrev zI:=Int×Int×Int×Int×Int×Int×Int
def fI (a:yA):Bool:=decide (a.1>-4611686018427387904)&&(decide (a.1<4611686018427387904)&&(decide (a.2.1≥0)&&(decide (a.2.1≤2305843009213693952)&&(decide (a.2.2≥0)&&decide (a.2.2≤2305843009213693952)))))
def wY (n:Int):Bool:=decide (n≥-1)&&decide (n≤2305843009213693952)
def iB (n:Int):Bool:=decide (n>-72057594037927936)&&decide (n<72057594037927936)
def cell (m:EQ)(i j:Nat):Int:=(m.getD i []).getD j 0
def nj (n:Nat)(m:EQ):Bool:=decide (m.length=n)&&qB (fun i=>decide ((m.getD i []).length=n)) n 0
def qm (p:Int→Bool)(n:Nat)(m:EQ):Bool:=qB (fun i=>qB (fun j=>p (cell m i j)) n 0) n 0
def xP (n:Nat)(m:EQ):Bool:=qB (fun i=>qB (fun j=>decide (cell m i j=zA (0-cell m j i))) n 0) n 0
def kV (xQ:List yA)(bil:EQ)(mul:AC)(pos:EQ):Bool:=
 let n:=xQ.length
 decide (1≤n)&&(decide (n≤6)&&(nj n bil&&(nj n pos&&(decide (mul.length=n)&&(qB (fun i=>fI (xQ.getD i (0,0,0))) n 0&&(qB (fun i=>wY (mul.getD i 0)) n 0&&(qm wY n bil&&(qm iB n pos&&xP n pos))))))))
theorem Yj k b c r:KW k b c r=some (fI (b,c,r)):=by
 unfold KW fI;grind
theorem yNj k b c r:P7 k b c r=some (fI (b,c,r)):=Yj k b c r
theorem Yk k n:KX k n=some (wY n):=by
 unfold KX wY;grind
theorem vUs k n:Yl k n=some (wY n):=Yk k n
theorem vS6 k n:P8 k n=some (iB n):=by
 unfold P8 iB;grind
theorem vBq {k:Nat}{n:Nat}(hk:n<k)(hn:n≤9999)(m:EQ):KY k m n=some (nj n m):=by
 unfold KY nj;simp only[sM];by_cases h:m.length=n
 ·have := fg (L := fun c i => KZ k c m n i) (N := n) (fun i => decide ((m.getD i []).length = n)) (.inl ()) (.inr false) (fun c=>by
    show E8 k _ m n n=_;unfold E8;simp only [qV, ab (Nat.lt_irrefl n), ak]) (fun c i hi=>by
    show E8 k _ m n i=_;unfold E8;simp only[qA,qD hi (by omega),qV,sM,ao,h,aa hi,ai];cases decide ((m.getD i []).length=n)<;>rfl) hk
  simp only[h,decide_true,aB,ak,Bool.true_and];rw[this];generalize qB _ _ _=r;cases r<;>rfl
 ·simp only[ab h,bN,ai,Bool.false_and]
theorem vWi {k:Nat}{N i:Nat}(hk:N<k)(hN:N≤9999)(hi:i<N){a:List yA}{b p:EQ}{m:AC}(hb:b.length=N)(hp:p.length=N)(Ym:∀j,j<N→(b.getD j []).length=N)(pq:∀j,j<N→(p.getD j []).length=N):
  E9 k k N i 0 a b m p=some (bif qB (fun j=>wY (cell b i j)&&(iB (cell p i j)&&decide (cell p i j=zA (0-cell p j i)))) N 0 then .inl ((N:Int),(i:Int),a,b,m,p) else .inr false):=by
 refine fg (L:=fun c j=>E9 k c N i j a b m p) (N:=N) _ (.inl ((N:Int),(i:Int),a,b,m,p)) (.inr false) (fun c=>?_) (fun c j hj=>?_) hk
 ·show Fa k _ N i N a b m p=_;unfold Fa;simp only[qV,ab (Nat.lt_irrefl N),ak]
 ·show Fa k _ N i j a b m p=_;unfold Fa;simp only[qA,qD hj (by omega),qV,ao,hb,hp,Ym i hi,pq i hi,pq j hj,aa hj,aa hi,ai,Yk,ae,iB];show(bif !wY (cell b i j) then _ else bif decide (cell p i j≤_) then _ else bif decide (cell p i j≥_) then _ else bif !decide (cell p i j=_) then _ else _)=_;have e1:decide (cell p i j≤-72057594037927936)= !decide (cell p i j>-72057594037927936):=by
   by_cases h:cell p i j≤-72057594037927936
   ·rw[aa h,ab];rfl
   ·rw[ab h,aa];rfl
  have e2:decide (cell p i j≥72057594037927936)= !decide (cell p i j<72057594037927936):=by
   by_cases h:cell p i j≥72057594037927936
   ·rw[aa h,ab];rfl
   ·rw[ab h,aa];rfl
  rw[e1,e2];show(bif !wY (cell b i j) then _ else bif _ then _ else bif _ then _ else bif !decide (cell p i j=zA (0-cell p j i)) then _ else _)=_;cases wY (cell b i j)<;>cases decide (cell p i j>-72057594037927936)<;>cases decide (cell p i j<72057594037927936)<;>cases decide (cell p i j=zA (0-cell p j i))<;>rfl
theorem Yn {k:Nat}{N:Nat}(hk:N<k)(hN:N≤9999){a:List yA}{b p:EQ}{m:AC}(ha:a.length=N)(hm:m.length=N)(hb:b.length=N)(hp:p.length=N)(Ym:∀j,j<N→(b.getD j []).length=N)(pq:∀j,j<N→(p.getD j []).length=N):
  Fc k k N 0 a b m p=some (bif qB (fun i=>fI (a.getD i (0,0,0))&&(wY (m.getD i 0)&&qB (fun j=>wY (cell b i j)&&(iB (cell p i j)&&decide (cell p i j=zA (0-cell p j i)))) N 0)) N 0 then .inl () else .inr false):=by
 refine fg (L:=fun c j=>Fc k c N j a b m p) (N:=N) _ (.inl ()) (.inr false) (fun c=>?_) (fun c i hi=>?_) hk
 ·show Fe k _ N N a b m p=_;unfold Fe;simp only[qV,ab (Nat.lt_irrefl N),ak]
 ·show Fe k _ N i a b m p=_;unfold Fe;simp only[qA,qV,ao,ha,hm,aa hi,ai,Yk,Yj,ae,vWi hk hN hi hb hp Ym pq];generalize qB _ N 0=r;show(bif !fI (a.getD i (0,0,0)) then _ else _)=_;cases fI (a.getD i (0,0,0))<;>cases wY (m.getD i 0)<;>cases r<;>simp only[aB,bN,ai,ak,Bool.and_true,Bool.and_false,Bool.true_and,Bool.false_and,qD hi (show N<9223372036854775808 by omega)]
theorem yY5 {k:Nat}(hk:10<k)(a:List yA)(b:EQ)(m:AC)(p:EQ):Ff k a b m p=some (kV a b m p):=by
 unfold Ff;have l1:decide ((a.length:Int)<1)= !decide (1≤a.length):=by
  by_cases h:1≤a.length
  ·rw[aa h,ab];rfl
  ·rw[ab h,aa];rfl
 have l2:decide ((a.length:Int)>6)= !decide (a.length≤6):=by
  by_cases h:a.length≤6
  ·rw[aa h,ab];rfl
  ·rw[ab h,aa];rfl
 rw[l1,l2];unfold kV;dsimp only;by_cases h1:1≤a.length
 case neg=>rw[ab h1];rfl
 by_cases h2:a.length≤6
 case neg=>rw[aa h1,ab h2];rfl
 rw[aa h1,aa h2];simp only[aB,ak,Bool.true_and];rw[vBq (by omega) (by omega),vBq (by omega) (by omega)];simp only[ae,sM];cases hb:nj a.length b with
 |false=>rfl
 |true=>
  cases hp:nj a.length p with
  |false=>rfl
  |true=>
   by_cases hm:m.length=a.length
   case neg=>simp only[ab hm];rfl
   simp only[nj,aR,aZ,wI] at hb hp;simp only[hm,decide_true,aB,ak,Bool.true_and];rw[Yn (by omega) (by omega) rfl hm hb.1 hp.1 hb.2 hp.2];have e:(qB (fun i=>fI (a.getD i (0,0,0))) a.length 0&&(qB (fun i=>wY (m.getD i 0)) a.length 0&&(qm wY a.length b&&(qm iB a.length p&&xP a.length p))))=
     qB (fun i=>fI (a.getD i (0,0,0))&&(wY (m.getD i 0)&&qB (fun j=>wY (cell b i j)&&(iB (cell p i j)&&decide (cell p i j=zA (0-cell p j i)))) a.length 0)) a.length 0:=by
    rw[Bool.eq_iff_iff];simp only[qm,xP,aR,wI];constructor
    ·rintro⟨h1,h2,h3,h4,h5⟩ i hi
     exact⟨h1 i hi,h2 i hi,fun j hj=>⟨h3 i hi j hj,h4 i hi j hj,h5 i hi j hj⟩⟩
    ·intro h;exact⟨fun i hi=>(h i hi).1,fun i hi=>(h i hi).2.1,fun i hi j hj=>((h i hi).2.2 j hj).1,fun i hi j hj=>((h i hi).2.2 j hj).2.1,fun i hi j hj=>((h i hi).2.2 j hj).2.2⟩
   rw[e];generalize qB _ _ _=r;cases r<;>rfl
theorem vQa {k}{a:List yA}(hk:a.length<k)(hl:a.length<9223372036854775808):P9 k a=some (!qB (fun i=>fI (a.getD i (0,0,0))) a.length 0):=by
 obtain ⟨x, h1, h2⟩ := qi (L := fun c i => K0 k c a a.length i) (N := a.length) (fun i => !fI (a.getD i (0, 0, 0))) (fun c=>by
  show Fg k _ a a.length a.length=_;unfold Fg;simp) (fun c i hi=>by
  show Fg k _ a a.length i=_;unfold Fg Yo;simp[qA,qD hi hl,aa hi,yNj]) hk
 unfold P9 Yp;grind
theorem Yq {k a}(hk:a.length<k)(hl:a.length<9223372036854775808):Qa k a=some (!qB (fun i=>wY (a.getD i 0)) a.length 0):=by
 obtain ⟨x, h1, h2⟩ := qi (L := fun c i => K1 k c a a.length i) (N := a.length) (fun i => !wY (a.getD i 0)) (fun c=>by
  show Fh k _ a a.length a.length=_;unfold Fh;simp) (fun c i hi=>by
  show Fh k _ a a.length i=_;unfold Fh Yr;simp[qA,qD hi hl,aa hi,vUs]) hk
 unfold Qa Ys;grind
theorem Yt {k a}(hk:a.length<k)(hl:a.length<9223372036854775808):Qb k a=some (!qB (fun i=>iB (a.getD i 0)) a.length 0):=by
 obtain ⟨x, h1, h2⟩ := qi (L := fun c i => K2 k c a a.length i) (N := a.length) (fun i => !iB (a.getD i 0)) (fun c=>by
  show Fi k _ a a.length a.length=_;unfold Fi;simp) (fun c i hi=>by
  show Fi k _ a a.length i=_;unfold Fi Yu;simp[qA,qD hi hl,aa hi,vS6]) hk
 unfold Qb Yv;grind
theorem yWq {k n:Nat}(hk:n<k)(hn:n≤9999)(a:AC):K3 k a n=some (decide (a.length=n)&&qB (fun i=>wY (a.getD i 0)) n 0):=by
 unfold K3;simp only[sM];by_cases h:a.length=n
 ·rw[Yq (by omega) (by omega)];simp only[h,decide_true,ai,ae,Bool.not_not,Bool.true_and]
 ·simp only[ab h,ak,Bool.false_and]
theorem vMf {k n:Nat}(hk:n<k)(hn:n≤9999)(a:AC):Qc k a n=some (decide (a.length=n)&&qB (fun i=>iB (a.getD i 0)) n 0):=by
 unfold Qc;simp only[sM];by_cases h:a.length=n
 ·rw[Yt (by omega) (by omega)];simp only[h,decide_true,ai,ae,Bool.not_not,Bool.true_and]
 ·simp only[ab h,ak,Bool.false_and]
theorem vXu {k n:Nat}(hk:n<k)(hn:n≤9999)(m:EQ):Qd k m n=some (decide (m.length=n)&&qB (fun i=>decide ((m.getD i []).length=n)&&qB (fun j=>wY (cell m i j)) n 0) n 0):=by
 unfold Qd;simp only[sM];by_cases h:m.length=n
 ·have := fg (L := fun c i => K4 k c n m n i) (N := n) (fun i => decide ((m.getD i []).length = n) && qB (fun j => wY (cell m i j)) n 0) (.inl ()) (.inr false) (fun c=>by
    show Fj k _ n m n n=_;unfold Fj;simp only [qV, ab (Nat.lt_irrefl n), ak]) (fun c i hi=>by
    show Fj k _ n m n i=_;unfold Fj;simp only[qA,qD hi (by omega),qV,ao,h,aa hi,ai,yWq hk hn,ae];show(bif !(decide ((m.getD i []).length=n)&&qB (fun j=>wY (cell m i j)) n 0) then _ else _)=_;generalize (decide ((m.getD i []).length=n)&&qB (fun j=>wY (cell m i j)) n 0)=r;cases r<;>rfl) hk
  simp only[h,decide_true,aB,ak,Bool.true_and];rw[this];generalize qB _ _ _=r;cases r<;>rfl
 ·simp only[ab h,bN,ai,Bool.false_and]
theorem Yw {k n:Nat}(hk:n<k)(hn:n≤9999)(m:EQ):Qe k m n=some (decide (m.length=n)&&qB (fun i=>decide ((m.getD i []).length=n)&&qB (fun j=>iB (cell m i j)) n 0) n 0):=by
 unfold Qe;simp only[sM];by_cases h:m.length=n
 ·have := fg (L := fun c i => K5 k c n m n i) (N := n) (fun i => decide ((m.getD i []).length = n) && qB (fun j => iB (cell m i j)) n 0) (.inl ()) (.inr false) (fun c=>by
    show Fk k _ n m n n=_;unfold Fk;simp only [qV, ab (Nat.lt_irrefl n), ak]) (fun c i hi=>by
    show Fk k _ n m n i=_;unfold Fk;simp only[qA,qD hi (by omega),qV,ao,h,aa hi,ai,vMf hk hn,ae];show(bif !(decide ((m.getD i []).length=n)&&qB (fun j=>iB (cell m i j)) n 0) then _ else _)=_;generalize (decide ((m.getD i []).length=n)&&qB (fun j=>iB (cell m i j)) n 0)=r;cases r<;>rfl) hk
  simp only[h,decide_true,aB,ak,Bool.true_and];rw[this];generalize qB _ _ _=r;cases r<;>rfl
 ·simp only[ab h,bN,ai,Bool.false_and]
theorem vRt {k N i:Nat}(hk:N<k)(hN:N≤9999)(hi:i<N){p q:EQ}{u:Int}(hp:p.length=N)(pq:∀j,j<N→(p.getD j []).length=N):
  Fl k k p i q u i (p.getD i []) N 0=some (bif qB (fun j=>decide (cell p j i=zA (0-cell p i j))) N 0 then .inl (p,q,u,(i:Int)) else .inr false):=by
 refine fg (L:=fun c j=>Fl k c p i q u i (p.getD i []) N j) (N:=N) _ (.inl (p,q,u,(i:Int))) (.inr false) (fun c=>?_) (fun c j hj=>?_) hk
 ·show Fm k _ p i q u i (p.getD i []) N N=_;unfold Fm;simp only[qV,ab (Nat.lt_irrefl N),ak]
 ·show Fm k _ p i q u i (p.getD i []) N j=_;unfold Fm;simp only[qA,qD hj (show N<9223372036854775808 by omega),qV,ao,hp,pq i hi,pq j hj,aa hj,aa hi,ai];show(bif !decide (cell p j i=zA (0-cell p i j)) then _ else _)=_;generalize decide (cell p j i=zA (0-cell p i j))=r;cases r<;>rfl
theorem Yx {k N}(hk:N<k)(hN:N≤9999){p}(hp:p.length=N)(pq:∀j,j<N→(p.getD j []).length=N):
  Qf k p=some (xP N p):=by
 have := fg (L := fun c i => K6 k c p p N i) (N := N) (fun i => qB (fun j => decide (cell p j i = zA (0 - cell p i j))) N 0) (.inl ()) (.inr false) (fun c=>by
   show Fo k _ p p N N=_;unfold Fo;simp) (fun c i hi=>by
   show Fo k _ p p N i=_;unfold Fo;simp only[qA,qV,ao,hp,pq i hi,aa hi,vRt hk hN hi hp pq,ae];generalize qB _ N 0=r;cases r<;>simp[qD hi (by grind)]) hk
 unfold Qf;have e:qB (fun i=>qB (fun j=>decide (cell p j i=zA (0-cell p i j))) N 0) N 0=xP N p:=by
  rw[Bool.eq_iff_iff];simp[xP,wI];grind
 grind
theorem yP6 {k:Nat}(hk:10<k)(a:List yA)(b:EQ)(m:AC)(p:EQ):Fp k a b m p=some (kV a b m p):=by
 unfold Fp;have l1:decide ((a.length:Int)<1)= !decide (1≤a.length):=by
  by_cases h:1≤a.length
  ·rw[aa h,ab];rfl
  ·rw[ab h,aa];rfl
 have l2:decide ((a.length:Int)>6)= !decide (a.length≤6):=by
  by_cases h:a.length≤6
  ·rw[aa h,ab];rfl
  ·rw[ab h,aa];rfl
 rw[l1,l2];unfold kV;dsimp only;by_cases h1:1≤a.length
 case neg=>rw[ab h1];rfl
 by_cases h2:a.length≤6
 case neg=>rw[aa h1,ab h2];rfl
 rw[aa h1,aa h2];simp only[aB,ak,Bool.true_and];rw[vQa (by omega) (by omega),vXu (by omega) (by omega),yWq (by omega) (by omega),Yw (by omega) (by omega)];simp only[ae];generalize hA:qB (fun i=>fI (a.getD i (0,0,0))) a.length 0=A;have sq:∀(q:Int→Bool) (m:EQ),(decide (m.length=a.length)&&qB (fun i=>decide ((m.getD i []).length=a.length)&&qB (fun j=>q (cell m i j)) a.length 0) a.length 0)=(nj a.length m&&qm q a.length m):=by
  intro q m;rw[Bool.eq_iff_iff];simp only[nj,qm,aR,aZ,wI];exact⟨fun h=>⟨⟨h.1,fun i hi=>(h.2 i hi).1⟩,fun i hi=>(h.2 i hi).2⟩,fun h=>⟨h.1.1,fun i hi=>⟨h.1.2 i hi,h.2 i hi⟩⟩⟩
 rw[sq wY b,sq iB p];cases hp:nj a.length p with
 |false=>
  cases A<;>cases nj a.length b<;>cases qm wY a.length b<;>cases decide (m.length=a.length)<;>cases qB (fun i=>wY (m.getD i 0)) a.length 0<;>rfl
 |true=>
  simp only[nj,aR,aZ,wI] at hp;rw[Yx (N:=a.length) (by omega) (by omega) hp.1 hp.2];cases A<;>cases nj a.length b<;>cases qm wY a.length b<;>cases decide (m.length=a.length)<;>cases qB (fun i=>wY (m.getD i 0)) a.length 0<;>cases qm iB a.length p<;>cases xP a.length p<;>rfl
theorem yHb {k N:Nat}{s}(hN:s.length=N)(hl:N≤9999)(hr:∀i,i<N→(s.getD i []).length≤9999):∀c i n,i+c=N→c<n→K7 k n s i (s.take i)=some s
 |0,i,n,h,hn=>by
  obtain⟨n,rfl⟩:=ara n;show Fq k _ s i (s.take i)=_;unfold Fq;grind
 |c+1,i,n,h,hn=>by
  obtain⟨n,rfl⟩:=ara n;show Fq k _ s i (s.take i)=_;unfold Fq;have hi:i<s.length:=by omega
  have h1:=hr i (by omega);have e1:zO (0+(s.getD i []).length) 8=true:=qG;have e2:zO ((s.take i).length+1) 24=true:=qG (by grind) (by grind);simp only[qA,qD hi (by grind),qV,ao,aa hi,e1,e2];rw[fF s i [] hi];exact yHb hN hl hr c (i+1) n (by omega) (by omega)
theorem yMh {k s}(hl:s.length≤9999)(hk:s.length<k)(hr:∀i,i<s.length→(s.getD i []).length≤9999):K8 k s=some s:=by
 unfold K8;have:=yHb (k:=k) rfl hl hr s.length 0 k (by omega) hk;simp_all
theorem vEw {k N:Nat}{s}(hN:s.length=N)(hl:N≤9999)(hr:∀i,i<N→(s.getD i []).length≤9999):∀c i n,i+c=N→c<n→K9 k n s N i (s.take i) N=some (s,N)
 |0,i,n,h,hn=>by
  obtain⟨n,rfl⟩:=ara n;show Fs k _ s N i (s.take i) N=_;unfold Fs;grind
 |c+1,i,n,h,hn=>by
  obtain⟨n,rfl⟩:=ara n;show Fs k _ s N i (s.take i) N=_;unfold Fs qn;have hi:i<N:=by omega
  have h1:=hr i (by omega);have e1:zO (0+(s.getD i []).length) 8=true:=qG;have e2:Nat.beq i (s.take i).length=true:=by rw[bY,Nat.min_eq_left (by omega)];simp
  simp only[qA,qD hi (by grind),qV,ao,aa hi,ai,e1,e2,hN,ae];rw[fF s i [] (by omega)];exact vEw hN hl hr c (i+1) n (by omega) (by omega)
theorem yPp {k s}(hl:s.length≤9999)(hk:s.length<k)(hr:∀i,i<s.length→(s.getD i []).length≤9999):La k s=some s:=by
 unfold La Yy;have:=vEw (k:=k) rfl hl hr s.length 0 k (by omega) hk;rw[List.take_zero] at this;have e:((0:Nat):Int)=0:=rfl;rw[e] at this;have e1:zO (0+s.length) 24=true:=qG;simp only[e1,ai,ae];rw[this];simp only[vYd];simp
structure Sized (a:List yA) (b:EQ) (m:AC) (p:EQ):Prop where
 n1:1≤a.length
 n6:a.length≤6
 bl:b.length=a.length
 br:∀i,i<a.length→(b.getD i []).length=a.length
 ml:m.length=a.length
 pl:p.length=a.length
 pr:∀i,i<a.length→(p.getD i []).length=a.length
structure wW (a:List yA) (b:EQ) (m:AC) (p:EQ):Prop extends Sized a b m p where
 acct:∀i,i<a.length→fI (a.getD i (0,0,0))=true
 mul:∀i,i<a.length→wY (m.getD i 0)=true
 bil:∀i,i<a.length→∀j,j<a.length→wY (cell b i j)=true
 net:∀i,i<a.length→∀j,j<a.length→iB (cell p i j)=true
 turn:∀i,i<a.length→∀j,j<a.length→cell p i j=zA (0-cell p j i)
theorem Ft {a:List yA}{b:EQ}{m:AC}{p:EQ}:kV a b m p=true↔wW a b m p:=by
 unfold kV;simp only[aR,aZ,nj,qm,xP,wI];constructor
 ·rintro⟨h1,h2,⟨h3,h4⟩,⟨h5,h6⟩,h7,h8,h9,Yz,h11,YA⟩
  exact{n1:=h1,n6:=h2,bl:=h3,br:=h4,ml:=h7,pl:=h5,pr:=h6,acct:=h8,mul:=h9,bil:=Yz,net:=h11,turn:=YA}
 ·intro h;exact⟨h.n1,h.n6,⟨h.bl,h.br⟩,⟨h.pl,h.pr⟩,h.ml,h.acct,h.mul,h.bil,h.net,h.turn⟩
theorem Lb {k}(hk:10<k){a b m p}(h:Sized a b m p):pt k a b m p=some (a,b,m,p):=by
 obtain⟨h1,h2,h3,h4,h5,h6,h7⟩:=h;unfold pt;have e1:zO (0+a.length) 24=true:=qG;have e2:zO (0+m.length) 8=true:=qG;rw[yMh (s:=b) (by omega) (by omega) (by grind),yMh (s:=p) (by omega) (by omega) (by grind)];grind
theorem Lc {k}(hk:10<k){a b m p}(h:Sized a b m p):gC k a b m p=some (a,b,m,p):=by
 obtain⟨h1,h2,h3,h4,h5,h6,h7⟩:=h;unfold gC YB qn;have e1:zO (0+a.length) 24=true:=qG;have e2:zO (0+m.length) 8=true:=qG;rw[yPp (s:=b) (by omega) (by omega) (by grind),yPp (s:=p) (by omega) (by omega) (by grind)];grind
theorem Ld {α:Type} d [DecidableEq α]{a b:List α}(h:a.length=b.length):qB (fun i=>decide (a.getD i d=b.getD i d)) a.length 0=decide (a=b):=by
 rw[Bool.eq_iff_iff,wI];simp;exact⟨fun h'=>EV d h h',by grind⟩
theorem Qg {k:Nat}{a b:AC}(hk:a.length<k)(hl:a.length<9223372036854775808):uI k a b=some (decide (a=b)):=by
 unfold uI;simp only[sM];by_cases h:a.length=b.length
 ·have := fg (L := fun c i => Le k c a b i) (N := a.length) (fun i => decide (a.getD i 0 = b.getD i 0)) (.inl ()) (.inr false) (fun c=>by
    show Fu k _ a b a.length=_;unfold Fu;simp only [qV, ab (Nat.lt_irrefl _), ak]) (fun c i hi=>by
    show Fu k _ a b i=_;unfold Fu;simp only[qA,qD hi hl,qV,ao,←h,aa hi,ai];cases decide (a.getD i 0=b.getD i 0)<;>rfl) hk
  rw[Ld 0 h] at this;simp only[h,decide_true,aB,ak];rw[this];cases decide (a=b)<;>rfl
 ·simp only[ab h,bN,ai];rw[ab fun e=>h (by rw[e])]
theorem YC {k:Nat}{a b:EQ}(hk:a.length<k)(hl:a.length<9223372036854775808)(hr:∀i,i<a.length→(a.getD i []).length<k∧(a.getD i []).length<9223372036854775808):BW k a b=some (decide (a=b)):=by
 unfold BW;simp only[sM];by_cases h:a.length=b.length
 ·have := fg (L := fun c i => Lf k c a b i) (N := a.length) (fun i => decide (a.getD i [] = b.getD i [])) (.inl ()) (.inr false) (fun c=>by
    show Fv k _ a b a.length=_;unfold Fv;simp only [qV, ab (Nat.lt_irrefl _), ak]) (fun c i hi=>by
    show Fv k _ a b i=_;unfold Fv;simp only[qA,qD hi hl,qV,ao,←h,aa hi,ai,Qg (hr i hi).1 (hr i hi).2,ae];cases decide (a.getD i []=b.getD i [])<;>rfl) hk
  rw[Ld [] h] at this;simp only[h,decide_true,aB,ak];rw[this];cases decide (a=b)<;>rfl
 ·simp only[ab h,bN,ai];rw[ab fun e=>h (by rw[e])]
theorem vM1 {k:Nat}(hk:10<k){a:List yA}{b:EQ}{m:AC}{p:EQ}(h:Sized a b m p)(a':List yA)(b':EQ)(m':AC)(p':EQ):
  Lg k a b m p a' b' m' p'=some (decide (a=a')&&(decide (b=b')&&(decide (p=p')&&decide (m=m')))):=by
 obtain⟨h1,h2,h3,h4,h5,h6,h7⟩:=h;unfold Lg;simp only[sM];by_cases hl:a.length=a'.length
 ·rw[YC (a:=b) (by omega) (by omega) (fun i hi=>by rw[h4 i (by omega)];omega),YC (a:=p) (by omega) (by omega) (fun i hi=>by rw[h7 i (by omega)];omega),Qg (by omega) (by omega)];have := fg (L := fun c i => Lh k c i a b m p a' b' m' p') (N := a.length) (fun i => decide (a.getD i (0, 0, 0) = a'.getD i (0, 0, 0))) (.inl ()) (.inr false) (fun c=>by
    show Fw k _ a.length a b m p a' b' m' p'=_;unfold Fw;simp only [qV, ab (Nat.lt_irrefl _), ak]) (fun c i hi=>by
    show Fw k _ i a b m p a' b' m' p'=_;unfold Fw;simp only[qA,qD hi (show a.length<9223372036854775808 by omega),qV,ao,←hl,aa hi,ai];have e:decide (a.getD i (0,0,0)=a'.getD i (0,0,0))=(decide ((a.getD i (0,0,0)).1=(a'.getD i (0,0,0)).1)&&(decide ((a.getD i (0,0,0)).2.1=(a'.getD i (0,0,0)).2.1)&&decide ((a.getD i (0,0,0)).2.2=(a'.getD i (0,0,0)).2.2))):=by
     rw[Bool.eq_iff_iff];simp only[aR,aZ];exact⟨fun h=>by rw[h];exact⟨rfl,rfl,rfl⟩,fun h=>Prod.ext h.1 (Prod.ext h.2.1 h.2.2)⟩
    rw[e];generalize (decide ((a.getD i (0,0,0)).1=(a'.getD i (0,0,0)).1)&&_)=r;cases r<;>rfl) (show a.length<k by omega)
  rw[Ld (0,0,0) hl] at this;simp only[hl,decide_true,aB,ak,ae];have e0:((0:Nat):Int)=0:=rfl;rw[this];cases decide (b=b')<;>cases decide (p=p')<;>cases decide (m=m')<;>cases decide (a=a')<;>rfl
 ·simp only[ab hl,bN,ai];rw[ab fun e=>hl (by rw[e])];rfl
abbrev pd:zI:=(0,(0,(0,(0,(0,(0,0))))))
abbrev ad:yA:=(0,(0,0))
def pv (n:Nat)(p:zI):Bool:=decide (p.2.1≥0)&&(decide (p.2.1<(n:Int))&&(decide (p.2.2.1≥0)&&(decide (p.2.2.1<(n:Int))&&(!decide (p.2.1=p.2.2.1)&&(decide (p.2.2.2.1≥1)&&(decide (p.2.2.2.1≤1099511627776)&&(decide (p.2.2.2.2.1≥1)&&decide (p.2.2.2.2.1≤3))))))))
structure yN (n:Nat) (p:zI):Prop where
 f0:0≤p.2.1
 f1:p.2.1<n
 t0:0≤p.2.2.1
 t1:p.2.2.1<n
 ne:p.2.1≠p.2.2.1
 a1:1≤p.2.2.2.1
 a2:p.2.2.2.1≤1099511627776
 c1:1≤p.2.2.2.2.1
 c3:p.2.2.2.2.1≤3
theorem YD {n p}:pv n p=true↔yN n p:=by
 unfold pv;simp;exact⟨fun⟨h1,h2,h3,h4,h5,h6,h7,h8,h9⟩=>⟨h1,h2,h3,h4,h5,h6,h7,h8,h9⟩,fun⟨h1,h2,h3,h4,h5,h6,h7,h8,h9⟩=>by grind⟩
theorem Qh k (a:List yA) b m p i f t am c s ti:Fx k a b m p i f t am c s ti=some (pv a.length (i,f,t,am,c,s,ti)):=by
 unfold Fx pv;grind
theorem vHr k (a:List yA) b m p i f t am c s ti:Qi k a b m p i f t am c s ti=some (pv a.length (i,f,t,am,c,s,ti)):=Qh k a b m p i f t am c s ti
def n9 (n:Nat)(l:List zI):Bool:=qB (fun i=>pv n (l.getD i pd)) l.length 0
theorem BX {n l}:n9 n l=true↔∀p∈l,yN n p:=by
 unfold n9;rw[wI];constructor
 ·intro h p hp;obtain⟨i,hi,rfl⟩:=List.getElem_of_mem hp;have:=h i hi;rw[bX,List.getElem?_eq_getElem hi] at this;exact YD.1 this
 ·intro h i hi;exact YD.2 (by grind)
theorem vLe {k}{l:List zI}(hk:l.length<k)(hl:l.length<9223372036854775808)(a:List yA) b m p:Qj k l a b m p=some (!n9 a.length l):=by
 obtain ⟨x, h1, h2⟩ := qi (L := fun c i => Li k c l l.length i a b m p) (N := l.length) (fun i => !pv a.length (l.getD i pd)) (fun c=>by
  show Fy k _ l l.length l.length a b m p=_;unfold Fy;simp) (fun c i hi=>by
  show Fy k _ l l.length i a b m p=_;unfold Fy YE;simp[qA,qD hi hl,aa hi,Qh]) hk
 unfold Qj YF;unfold n9;grind
theorem ySl {k}{l:List zI}(hk:l.length<k)(hl:l.length<9223372036854775808)(a:List yA) b m p:Lj k a b m p l=some (n9 a.length l&&decide (l.length≤64)):=by
 unfold Lj;have := fg (L := fun c i => Lk k c l i a b m p) (N := l.length) (fun i => pv a.length (l.getD i pd)) (.inl l) (.inr false) (fun c=>by
  show Fz k _ l l.length a b m p=_;unfold Fz;simp) (fun c i hi=>by
  show Fz k _ l i a b m p=_;unfold Fz;simp only[qA,qD hi hl,qV,aa hi,vHr];simp) hk
 unfold n9;have e:decide (((l.length:Nat):Int)≤64)=decide (l.length≤64):=by
  grind
 grind
def gB (i:Nat)(p:zI):Int:=(if p.2.2.1=i then p.2.2.2.1 else 0)-(if p.2.1=i then p.2.2.2.1 else 0)
def gS (i j:Nat)(p:zI):Int:=if p.2.1=i∧p.2.2.1=j then p.2.2.2.1 else 0
def gR (i:Nat)(p:zI):Int:=if p.2.1=i∧p.2.2.2.2.1≠3 then p.2.2.2.1 else 0
def jF (r s:Int):Int:=if s≥r then 0 else r-s
theorem YG {r s t}(hs:0≤s)(ht:0≤t):jF (jF r s) t=jF r (s+t):=by
 unfold jF;omega
theorem YH {r}(hr:0≤r):jF r 0=r:=by
 unfold jF;omega
theorem vSa {r s}:0≤jF r s:=by
 unfold jF;omega
theorem YI {r s}(hr:0≤r)(hs:0≤s):jF r s≤r:=by
 unfold jF;omega
section
variable {n:Nat} {p:zI}
theorem YJ (h:yN n p) i:-1099511627776≤gB i p∧gB i p≤1099511627776:=by
 have h1:=h.a1;have h2:=h.a2;unfold gB;omega
theorem YK (h:yN n p) i j:0≤gS i j p∧gS i j p≤1099511627776:=by
 have h1:=h.a1;have h2:=h.a2;unfold gS;omega
theorem Qk (h:yN n p) i:0≤gR i p∧gR i p≤1099511627776:=by
 have h1:=h.a1;have h2:=h.a2;unfold gR;omega
end
def wD (n:Nat)(l:List zI):Prop:=(∀p∈l,yN n p)∧l.length≤64
theorem YL {n l}(h:wD n l) i:-70368744177664≤zR (gB i) l∧zR (gB i) l≤70368744177664:=by
 have h1:=BN (g:=gB i) (A:=1099511627776) fun p hp=>YJ (h.1 p hp) i
 have h2:=h.2;omega
theorem uJ {n l}(h:wD n l) i j:0≤zR (gS i j) l∧zR (gS i j) l≤70368744177664:=by
 have h1:=BN (g:=gS i j) (A:=1099511627776) fun p hp=>by have:=YK (h.1 p hp) i j;omega
 have h0:=xJ (g:=gS i j) fun p hp=>(YK (h.1 p hp) i j).1
 have h2:=h.2;omega
theorem BY {n l}(h:wD n l) i:0≤zR (gR i) l∧zR (gR i) l≤70368744177664:=by
 have h1:=BN (g:=gR i) (A:=1099511627776) fun p hp=>by have:=Qk (h.1 p hp) i;omega
 have h0:=xJ (g:=gR i) fun p hp=>(Qk (h.1 p hp) i).1
 have h2:=h.2;omega
theorem wD.take {n l}(h:wD n l) i:wD n (l.take i):=⟨fun p hp=>h.1 p (by grind),by rw[bY];have:=h.2;omega⟩
structure uK (n:Nat) (a:List yA) (p:EQ) (l:List zI) (a':List yA) (p':EQ):Prop where
 al:a'.length=n
 acct:∀i,i<n→a'.getD i ad=((a.getD i ad).1+zR (gB i) l,(a.getD i ad).2.1,jF (a.getD i ad).2.2 (zR (gR i) l))
 pl:p'.length=n
 pr:∀i,i<n→(p'.getD i []).length=n
 cell:∀i,i<n→∀j,j<n→cell p' i j=cell p i j+zR (gS i j) l-zR (gS j i) l
theorem YM {n p q}(hp:p.length=n)(hq:q.length=n)(pq:∀i,i<n→(p.getD i []).length=n)(hqr:∀i,i<n→(q.getD i []).length=n)(h:∀i,i<n→∀j,j<n→cell p i j=cell q i j):p=q:=
 EV [] (by omega) fun i hi=>EV 0 (by simp_all) fun j hj=>h i (by omega) j (by simp_all)
theorem uK.same {n a a1 a2 p p1 p2 l}(x:uK n a p l a1 p1)(y:uK n a p l a2 p2):a1=a2∧p1=p2:=
 ⟨EV ad (by rw[x.al,y.al]) fun i hi=>by have:=x.al;rw[x.acct i (by omega),y.acct i (by omega)],
  YM x.pl y.pl x.pr y.pr fun i hi j hj=>by rw[x.cell i hi j hj,y.cell i hi j hj]⟩
structure Ql (n:Nat) (a:List yA) (p:EQ):Prop where
 al:a.length=n
 pl:p.length=n
 pr:∀i,i<n→(p.getD i []).length=n
 bal:∀i,i<n→-4611686018427387904<(a.getD i ad).1∧(a.getD i ad).1<4611686018427387904
 res:∀i,i<n→0≤(a.getD i ad).2.2∧(a.getD i ad).2.2≤2305843009213693952
 net:∀i,i<n→∀j,j<n→-72057594037927936<cell p i j∧cell p i j<72057594037927936
theorem wW.nums {a b m p}(h:wW a b m p):Ql a.length a p where
 al:=rfl
 pl:=h.pl
 pr:=h.pr
 bal:=fun i hi=>by
  have:=h.acct i hi;show-4611686018427387904<(a.getD i (0,0,0)).1∧(a.getD i (0,0,0)).1<4611686018427387904;simp only[fI,aR,aZ] at this;omega
 res:=fun i hi=>by
  have:=h.acct i hi;show 0≤(a.getD i (0,0,0)).2.2∧(a.getD i (0,0,0)).2.2≤2305843009213693952;simp only[fI,aR,aZ] at this;omega
 net:=fun i hi j hj=>by
  have:=h.net i hi j hj;simp[iB] at this;omega
theorem YN {m f t i j x}(hf:f<m.length)(ht:t<(m.getD f []).length):cell (m.set f ((m.getD f []).set t x)) i j=if i=f∧j=t then x else cell m i j:=by
 unfold cell;grind
theorem Qm {n}{m:EQ}{f t x}(hm:m.length=n)(hr:∀i,i<n→(m.getD i []).length=n)(hf:f<n):∀i,i<n→((m.set f ((m.getD f []).set t x)).getD i []).length=n:=by
 grind
def FA (p:zI)(r:List yA):List yA:=
 let y0:=r.set p.2.1.toNat (zA ((r.getD p.2.1.toNat ad).1-p.2.2.2.1),(r.getD p.2.1.toNat ad).2);let y1:=y0.set p.2.2.1.toNat (zA ((y0.getD p.2.2.1.toNat ad).1+p.2.2.2.1),(y0.getD p.2.2.1.toNat ad).2)
 bif !decide (p.2.2.2.2.1=3) then y1.set p.2.1.toNat ((y1.getD p.2.1.toNat ad).1,((y1.getD p.2.1.toNat ad).2.1,yE false (zA ((y1.getD p.2.1.toNat ad).2.2-p.2.2.2.1)) 0)) else y1
def xR (p:zI)(m:EQ):EQ:=
 let y3:=m.set p.2.1.toNat ((m.getD p.2.1.toNat []).set p.2.2.1.toNat (zA ((m.getD p.2.1.toNat []).getD p.2.2.1.toNat 0+p.2.2.2.1)))
 y3.set p.2.2.1.toNat ((y3.getD p.2.2.1.toNat []).set p.2.1.toNat (zA ((y3.getD p.2.2.1.toNat []).getD p.2.1.toNat 0-p.2.2.2.1)))
theorem vMp p r:(FA p r).length=r.length:=by
 unfold FA;grind
theorem YO {n p}(h:yN n p){r}(hr:r.length=n){i}(hi:i<n)(hb:∀i,i<n→-4611826755915743232<(r.getD i ad).1∧(r.getD i ad).1<4611826755915743232)
  (hz:∀i,i<n→0≤(r.getD i ad).2.2∧(r.getD i ad).2.2≤2305843009213693952):(FA p r).getD i ad=((r.getD i ad).1+gB i p,(r.getD i ad).2.1,jF (r.getD i ad).2.2 (gR i p)):=by
 obtain⟨f0,f1,t0,t1,ne,a1,a2,c1,c3⟩:=h;obtain⟨f,hf⟩:∃f:Nat,p.2.1=f:=⟨p.2.1.toNat,by omega⟩;obtain⟨t,ht⟩:∃t:Nat,p.2.2.1=t:=⟨p.2.2.1.toNat,by omega⟩;have Qn:f≠t:=by omega
 have iC:f<n:=by omega
 have gX:t<n:=by omega
 have bf:=hb f iC;have bt:=hb t gX;have zf:=hz f iC;have e1:(r.set f (zA ((r.getD f ad).1-p.2.2.2.1),(r.getD f ad).2)).getD t ad=r.getD t ad:=by rw[fG,if_neg (fun e=>Qn e.1)]
 have key:∀j,j<n→((r.set f (zA ((r.getD f ad).1-p.2.2.2.1),(r.getD f ad).2)).set t (zA ((r.getD t ad).1+p.2.2.2.1),(r.getD t ad).2)).getD j ad=((r.getD j ad).1+gB j p,(r.getD j ad).2):=by
  intro j hj;unfold gB;rw[hf,ht,fG];by_cases hjt:t=j
  ·subst hjt;rw[if_pos (by grind),if_pos rfl,if_neg (by omega),zQ];simp
  ·rw[if_neg (fun e=>hjt e.1),if_neg (by omega),fG];by_cases hjf:f=j
   ·subst hjf;rw[if_pos ⟨rfl,by omega⟩,if_pos rfl,zQ];simp only[Int.zero_sub];rfl
   ·rw[if_neg (fun e=>hjf e.1),if_neg (by omega)];simp
 unfold FA;simp only[hf,ht,ao,e1];unfold gR;cases hc:decide (p.2.2.2.2.1=3) with
 |true=>
  have l9:p.2.2.2.2.1=3:=by simpa using hc
  simp only[aB,ak];rw[key i hi,if_neg (fun e=>e.2 l9),YH (hz i hi).1]
 |false=>
  have l9:p.2.2.2.2.1≠3:=by simpa using hc
  simp only[bN,ai];rw[fG];by_cases hif:f=i
  ·subst hif;rw[if_pos (by grind),key f iC,if_pos ⟨hf,l9⟩];have:yE false (zA ((r.getD f ad).2.2-p.2.2.2.1)) 0=jF (r.getD f ad).2.2 p.2.2.2.1:=by
    rw[zQ];unfold yE jF;grind
   rw[this]
  ·rw[if_neg (fun e=>hif e.1),key i hi,if_neg (by omega),YH (hz i hi).1]
theorem vE4 {n:Nat}{p:zI}(h:yN n p){m:EQ}(hm:m.length=n)(hr:∀i,i<n→(m.getD i []).length=n)(hb:∀i,i<n→∀j,j<n→-72128000000000000<cell m i j∧cell m i j<72128000000000000):
  (xR p m).length=n∧(∀i,i<n→((xR p m).getD i []).length=n)∧∀i,i<n→∀j,j<n→cell (xR p m) i j=cell m i j+gS i j p-gS j i p:=by
 obtain⟨f0,f1,t0,t1,ne,a1,a2,c1,c3⟩:=h;obtain⟨f,hf⟩:∃f:Nat,p.2.1=f:=⟨p.2.1.toNat,by omega⟩;obtain⟨t,ht⟩:∃t:Nat,p.2.2.1=t:=⟨p.2.2.1.toNat,by omega⟩;have Qn:f≠t:=by omega
 have iC:f<n:=by omega
 have gX:t<n:=by omega
 unfold xR;simp only[hf,ht,ao];have r1:=Qm (x:=zA ((m.getD f []).getD t 0+p.2.2.2.1)) (t:=t) hm hr iC;have c1:∀i j,cell (m.set f ((m.getD f []).set t (zA ((m.getD f []).getD t 0+p.2.2.2.1)))) i j=if i=f∧j=t then zA (cell m f t+p.2.2.2.1) else cell m i j:=fun i j=>YN (by omega) (by rw[hr f iC];omega)
 refine⟨by simp only[List.length_set];exact hm,by grind,fun i hi j hj=>?_⟩;rw[YN (by rw[List.length_set];omega) (by rw[r1 t gX];omega)];have e2:((m.set f ((m.getD f []).set t (zA ((m.getD f []).getD t 0+p.2.2.2.1)))).getD t []).getD f 0=cell m t f:=by
  show cell _ t f=_;simp_all
 rw[e2,c1];unfold gS;rw[hf,ht];have b1:=hb f iC t gX;have b2:=hb t gX f iC;by_cases h1:i=t∧j=f
 ·obtain⟨rfl,rfl⟩:=h1;rw[if_pos ⟨rfl,rfl⟩,if_neg (by omega),if_pos ⟨rfl,rfl⟩,zQ];omega
 ·rw[if_neg h1];by_cases h2:i=f∧j=t
  ·obtain⟨rfl,rfl⟩:=h2;rw[if_pos ⟨rfl,rfl⟩,if_pos ⟨rfl,rfl⟩,if_neg (by omega),zQ];omega
  omega
theorem vNg {k n a b m p l}(hk:l.length<k)(hx:Ql n a p)(hl:wD n l)(b0:List yA) b1 b2 b3:
  ∃a' p',FB k k l l.length 0 b0 b1 b2 b3 a b m p=some (b0,b1,b2,b3,a',b,m,p')∧uK n a p l a' p':=by
 have := vB (L := fun c i (s : List yA × EQ) => FB k c l l.length i b0 b1 b2 b3 s.1 b m s.2) (N := l.length) (fun s => (b0, b1, b2, b3, s.1, b, m, s.2)) (fun i s => uK n a p (l.take i) s.1 s.2) (fun c s hs=>by
   show FC k _ l l.length l.length b0 b1 b2 b3 s.1 b m s.2=_;unfold FC;simp) (fun c i s hi hs=>by
   refine⟨(FA (l.getD i pd) s.1,xR (l.getD i pd) s.2),?_,?_⟩
   ·show FC k _ l l.length i b0 b1 b2 b3 s.1 b m s.2=_;have bZ:yN n (l.getD i pd):=hl.1 _ (fU hi);unfold FC FA xR;have oc:=hl.2;simp only[qA,qD hi (by grind),qV,ao,aa hi,ai];obtain⟨f0,f1,t0,t1,ne,a1,a2,c1,c3⟩:=bZ;obtain⟨f,hf⟩:∃f:Nat,(l.getD i pd).2.1=f:=⟨(l.getD i pd).2.1.toNat,by omega⟩;obtain⟨t,ht⟩:∃t:Nat,(l.getD i pd).2.2.1=t:=⟨(l.getD i pd).2.2.1.toNat,by omega⟩;have iC:f<n:=by omega
    have gX:t<n:=by omega
    have r1:=Qm (x:=zA ((s.2.getD f []).getD t 0+(l.getD i pd).2.2.2.1)) (t:=t) hs.pl hs.pr iC;simp only[hf,ht,ao,qA,hs.al,hs.pl,List.length_set,hs.pr f iC,r1 t gX,aa iC,aa gX,ai,xS,ae];grind
   ·have bZ:yN n (l.getD i pd):=hl.1 _ (fU hi);have aT:=hl.take i;have hp := vE4 bZ hs.pl hs.pr (fun i' bI j' mV=>by
     rw[hs.cell i' bI j' mV];have h1:=hx.net i' bI j' mV;have h2:=uJ aT i' j';have h3:=uJ aT j' i';omega)
    refine⟨by rw[vMp];exact hs.al,fun i' bI=>?_,hp.1,hp.2.1,fun i' bI j' mV=>?_⟩
    ·rw [YO bZ hs.al bI (fun j hj=>by
       rw[hs.acct j hj];have h1:=hx.bal j hj;have h2:=YL aT j;dsimp only;omega) (fun j hj=>by
       rw[hs.acct j hj];have h1:=hx.res j hj;have h2:=BY aT j;dsimp only;exact⟨vSa,Int.le_trans (YI h1.1 h2.1) h1.2⟩),hs.acct i' bI,←fF l i pd hi,kS,kS]
     dsimp only[zR];rw[YG (BY aT i').1 (Qk bZ i').1,Int.add_zero,Int.add_zero,Int.add_assoc]
    ·rw[hp.2.2 i' bI j' mV,hs.cell i' bI j' mV,←fF l i pd hi,kS,kS];dsimp only[zR];omega) (s:=(a,p)) hk ⟨hx.al,fun i hi=>by
      rw[List.take_zero];show a.getD i ad=((a.getD i ad).1+0,(a.getD i ad).2.1,jF (a.getD i ad).2.2 0);rw[YH (hx.res i hi).1,Int.add_zero],hx.pl,hx.pr,fun i hi j hj=>by
      rw[List.take_zero];show cell p i j=cell p i j+0-0;omega⟩
 simp_all
theorem YP {k n l}(hk:l.length<k)(hl:wD n l)(i j:Nat):xT k l i j=some (zR (gS i j) l):=by
 have oc:=hl.2;obtain ⟨s, h1, h2⟩ := vB (L := fun c x (s : Int) => Ll k c l i j s x) (N := l.length) (fun s => s) (fun x s => s = zR (gS i j) (l.take x)) (fun c s hs=>by
   show FD k _ l i j s l.length=_;unfold FD;simp) (fun c x s hx hs=>by
   refine⟨zR (gS i j) (l.take (x+1)),?_,rfl⟩;show FD k _ l i j s x=_;have hb:=uJ (hl.take x) i j;have hm:yN n (l.getD x pd):=hl.1 _ (by grind);have e:zR (gS i j) (l.take (x+1))=s+gS i j (l.getD x pd):=by
    rw[←fF l x pd hx,kS,hs];show _+(_+0)=_;omega
   have w:=zQ (x:=s+(l.getD x pd).2.2.2.1) (by have:=hm.a1;omega) (by have:=hm.a2;omega);unfold FD;simp[qA,qD hx (by grind)];rw[e];unfold gS;grind) (s:=0) hk rfl
 unfold xT;simp_all
theorem YQ {k n l}(hk:l.length<k)(hl:wD n l)(i j:Nat):Qo k l i j=some (zR (gS i j) l-zR (gS j i) l):=by
 unfold Qo;rw[YP hk hl i j,YP hk hl j i];have h1:=uJ hl i j;have h2:=uJ hl j i;simp;rw[zQ]
def gN (i:Nat)(p:zI):Int:=if p.2.1=i∧p.2.2.2.2.1=3 then p.2.2.2.1 else 0
theorem Qp {n p}(h:yN n p) i:0≤gN i p∧gN i p≤1099511627776:=by
 have h1:=h.a1;have h2:=h.a2;unfold gN;omega
theorem vBe {n l}(h:wD n l) i:0≤zR (gN i) l∧zR (gN i) l≤70368744177664:=by
 have h1:=BN (g:=gN i) (A:=1099511627776) fun p hp=>by have:=Qp (h.1 p hp) i;omega
 have h0:=xJ (g:=gN i) fun p hp=>(Qp (h.1 p hp) i).1
 have h2:=h.2;omega
theorem yNh {k n:Nat}{l}(hk:l.length<k)(hl:wD n l)(i:Nat):Lm k l i=some (zR (gN i) l,zR (gR i) l):=by
 have oc:=hl.2;obtain ⟨s, h1, h2⟩ := vB (L := fun c x (s : Int × Int) => Ln k c l i s.1 s.2 x) (N := l.length) (fun s => s) (fun x s => s = (zR (gN i) (l.take x), zR (gR i) (l.take x))) (fun c s hs=>by
   show FE k _ l i s.1 s.2 l.length=_;unfold FE;simp) (fun c x s hx hs=>by
   refine⟨(zR (gN i) (l.take (x+1)),zR (gR i) (l.take (x+1))),?_,rfl⟩;show FE k _ l i s.1 s.2 x=_;have hb:=vBe (hl.take x) i;have bg:=BY (hl.take x) i;have hm:yN n (l.getD x pd):=hl.1 _ (by grind);have e:zR (gN i) (l.take (x+1))=s.1+gN i (l.getD x pd):=by
    rw[←fF l x pd hx,kS,hs];show _+(_+0)=_;omega
   have e':zR (gR i) (l.take (x+1))=s.2+gR i (l.getD x pd):=by
    rw[←fF l x pd hx,kS,hs];show _+(_+0)=_;omega
   have w:=zQ (x:=s.1+(l.getD x pd).2.2.2.1) (by have:=hm.a1;grind) (by have:=hm.a2;grind);have w':=zQ (x:=s.2+(l.getD x pd).2.2.2.1) (by have:=hm.a1;rw[hs];omega) (by have:=hm.a2;grind);unfold FE;simp only[qA,qD hx (by grind),qV,ai];rw[e,e'];unfold gN gR;grind) (s:=(0,0)) hk rfl
 unfold Lm;simp_all
theorem YR {k n l}(hk:l.length<k)(hl:wD n l)(i:Nat):Qq k l i=some (zR (gR i) l):=by
 unfold Qq;rw[yNh hk hl i];rfl
theorem yZc k b c r s (h:-9223372036854775808≤r-s)(h':r<9223372036854775808)(hs:0≤s):Lp k b c r s=some (jF r s):=by
 unfold Lp jF;by_cases e:s≥r
 ·simp_all
 ·rw[ab e,if_neg e,zQ h (by omega)];rfl
theorem yFz {n l}(hl:∀p∈l,yN n p) i (hi:i<n):qI (fun j=>zR (gS i j) l-zR (gS j i) l) n= -zR (gB i) l:=by
 have e1:qI (fun j=>zR (gS i j) l-zR (gS j i) l) n=qI (fun j=>zR (fun p=>gS i j p-gS j i p) l) n:=sN fun j _=>(X7 _ _ l).symm
 rw[e1,PU (fun j p=>gS i j p-gS j i p)];have e2:∀p∈l,qI (fun j=>gS i j p-gS j i p) n=0-gB i p:=by
  intro p hp;obtain⟨f0,f1,t0,t1,ne,a1,a2,c1,c3⟩:=hl p hp;obtain⟨f,hf⟩:∃f:Nat,p.2.1=f:=⟨p.2.1.toNat,by omega⟩;obtain⟨t,ht⟩:∃t:Nat,p.2.2.1=t:=⟨p.2.2.1.toNat,by omega⟩;have g1:∀j,gS i j p-gS j i p=(if j=t then(if f=i then p.2.2.2.1 else 0) else 0)+(if j=f then(if t=i then-p.2.2.2.1 else 0) else 0):=by
   unfold gS;omega
  rw[sN fun j _=>g1 j,EU,BO,BO];unfold gB;omega
 rw[PT e2,X7];have:zR (fun _:zI=>(0:Int)) l=0:=by
  clear e1 e2 hl
  induction l with
  |nil=>rfl
  |cons p l ih=>show 0+zR _ l=0;omega
 omega
structure YS (n:Nat) (a:List yA) (p:EQ) (l:List zI) (i:Nat) (a':List yA) (p':EQ):Prop where
 al:a'.length=n
 done:∀x,x<n→x<i→a'.getD x ad=((a.getD x ad).1+zR (gB x) l,(a.getD x ad).2.1,jF (a.getD x ad).2.2 (zR (gR x) l))
 rest:∀x,x<n→¬x<i→a'.getD x ad=a.getD x ad
 pl:p'.length=n
 pr:∀x,x<n→(p'.getD x []).length=n
 cell:∀x,x<n→∀y,y<n→cell p' x y=if x<i then cell p x y+zR (gS x y) l-zR (gS y x) l else cell p x y
structure YT (n:Nat) (a:List yA) (p:EQ) (l:List zI) (i j:Nat) (a':List yA) (p':EQ):Prop where
 al:a'.length=n
 done:∀x,x<n→x<i→a'.getD x ad=((a.getD x ad).1+zR (gB x) l,(a.getD x ad).2.1,jF (a.getD x ad).2.2 (zR (gR x) l))
 here:a'.getD i ad=((a.getD i ad).1-qI (fun j=>zR (gS i j) l-zR (gS j i) l) j,(a.getD i ad).2.1,jF (a.getD i ad).2.2 (zR (gR i) l))
 rest:∀x,x<n→i<x→a'.getD x ad=a.getD x ad
 pl:p'.length=n
 pr:∀x,x<n→(p'.getD x []).length=n
 cell:∀x,x<n→∀y,y<n→cell p' x y=if x<i∨(x=i∧y<j) then cell p x y+zR (gS x y) l-zR (gS y x) l else cell p x y
theorem YU {k n a p l}(hk:n<k)(bK:l.length<k)(hn:n≤9999)(hx:Ql n a p)(hl:wD n l){i}(hi:i<n)(b0:List yA) b1 b2 b3 b m
  {a0 p0} (h0:YT n a p l i 0 a0 p0):∃a' p',FF k k l i 0 b0 b1 b2 b3 a0 b m p0=some (l,(i:Int),b0,b1,b2,b3,a',b,m,p')∧YT n a p l i n a' p':=by
 obtain ⟨s, h1, h2⟩ := vB (L := fun c j (s : List yA × EQ) => FF k c l i j b0 b1 b2 b3 s.1 b m s.2) (N := n) (fun s => (l, (i : Int), b0, b1, b2, b3, s.1, b, m, s.2)) (fun j s => YT n a p l i j s.1 s.2) (fun c s hs=>by
   show FG k _ l i n b0 b1 b2 b3 s.1 b m s.2=_;unfold FG;simp only [qV, hs.al, ab (Nat.lt_irrefl _), ak]) (fun c j s hj hs=>by
   refine⟨(s.1.set i (zA ((s.1.getD i ad).1-(zR (gS i j) l-zR (gS j i) l)),(s.1.getD i ad).2),s.2.set i ((s.2.getD i []).set j (zA ((s.2.getD i []).getD j 0+(zR (gS i j) l-zR (gS j i) l))))),?_,?_⟩
   ·show FG k _ l i j b0 b1 b2 b3 s.1 b m s.2=_;unfold FG;simp only[qA,qD hj (by grind),qV,ao,hs.al,hs.pl,hs.pr i hi,aa hi,aa hj,ai,YQ bK hl,ae]
   ·have hb:=hx.bal i hi;have hg:∀j,-70368744177664≤zR (gS i j) l-zR (gS j i) l∧zR (gS i j) l-zR (gS j i) l≤70368744177664:=fun j=>by
     have h1:=uJ hl i j;have h2:=uJ hl j i;omega
    have Es:=xK hg j;have EP:=hg j;have qo:=hx.net i hi j hj;have hc:=hs.cell i hi j hj;rw[if_neg (by omega)] at hc;refine⟨by simp only[List.length_set];exact hs.al,fun x kg xU=>?_,?_,fun x kg xU=>?_,by simp only[List.length_set];exact hs.pl,Qm hs.pl hs.pr hi,fun x kg y Lq=>?_⟩
    ·rw[fG,if_neg (by grind)];exact hs.done x kg xU
    ·rw[fG,if_pos ⟨rfl,by rw[hs.al];exact hi⟩,hs.here];dsimp only;rw[zQ];show(_,_)=((a.getD i ad).1-(qI _ j+_),_);grind
    ·rw[fG,if_neg (by grind)];exact hs.rest x kg xU
    ·have e:(s.2.getD i []).getD j 0=cell p i j:=hc;rw[YN (by rw[hs.pl];exact hi) (by rw[hs.pr i hi];exact hj),e];by_cases Qr:x=i∧y=j
     ·obtain⟨rfl,rfl⟩:=Qr;rw[if_pos ⟨rfl,rfl⟩,if_pos (by omega),zQ];omega
     ·rw[if_neg Qr,hs.cell x kg y Lq];omega) (s:=(a0,p0)) hk h0
 grind
theorem vZz {k n a b m p l}(hk:n<k)(bK:l.length<k)(hn:n≤9999)(hx:Ql n a p)(hl:wD n l)(b0:List yA) b1 b2 b3:
  ∃a' p',FH k k l 0 b0 b1 b2 b3 a b m p=some (b0,b1,b2,b3,a',b,m,p')∧uK n a p l a' p':=by
 obtain ⟨s, h1, h2⟩ := vB (L := fun c i (s : List yA × EQ) => FH k c l i b0 b1 b2 b3 s.1 b m s.2) (N := n) (fun s => (b0, b1, b2, b3, s.1, b, m, s.2)) (fun i s => YS n a p l i s.1 s.2) (fun c s hs=>by
   show FI k _ l n b0 b1 b2 b3 s.1 b m s.2=_;unfold FI;simp only [qV, hs.al, ab (Nat.lt_irrefl _), ak]) (fun c i s hi hs=>by
   have hai:=hs.rest i hi (by simp);have hr:=hx.res i hi;have hsp:=BY hl i;obtain⟨a',p',h1,h2⟩:=YU (a0:=s.1.set i ((s.1.getD i ad).1,((s.1.getD i ad).2.1,jF (s.1.getD i ad).2.2 (zR (gR i) l)))) (p0:=s.2) hk bK hn hx hl hi b0 b1 b2 b3 b m ⟨by rw[List.length_set];exact hs.al,fun x kg xU=>by
     rw[fG,if_neg (by grind)];exact hs.done x kg xU,by
     rw[fG,if_pos ⟨rfl,by rw[hs.al];exact hi⟩,hai];show _=((a.getD i ad).1-0,_,_);simp,fun x kg xU=>by
     rw[fG,if_neg (by grind)];exact hs.rest x kg (by omega),hs.pl,hs.pr,fun x kg y Lq=>by
     rw[hs.cell x kg y Lq];omega⟩
   refine⟨(a',p'),?_,?_⟩
   ·show FI k _ l i b0 b1 b2 b3 s.1 b m s.2=_;unfold FI;have hK:=yZc k (s.1.getD i ad).1 (s.1.getD i ad).2.1 (s.1.getD i ad).2.2 (zR (gR i) l) (by grind) (by grind) hsp.1;simp only[qA,qV,ao,hs.al,aa hi,ai,YR bK hl,ae];rw[hK];simp only[ae];rw[h1];simp only[ae,qD hi (by grind)]
   ·refine⟨h2.al,fun x kg xU=>?_,fun x kg xU=>h2.rest x kg (by omega),h2.pl,h2.pr,fun x kg y Lq=>?_⟩
    ·by_cases h:x<i
     ·exact h2.done x kg h
     ·have:x=i:=by omega
      subst this;rw[h2.here,yFz hl.1 x kg];simp
    ·rw[h2.cell x kg y Lq];omega) (s:=(a,p)) hk ⟨hx.al,by simp,by simp,hx.pl,hx.pr,by simp⟩
 exact⟨s.1,s.2,h1,h2.al,fun i hi=>h2.done i hi hi,h2.pl,h2.pr,fun i hi j hj=>by rw[h2.cell i hi j hj,if_pos hi]⟩
def sS (a:List yA)(b:EQ)(m:AC)(p:EQ)(l:List zI)(r:List yA×EQ×AC×EQ×Int):Prop:=
 (wD a.length l→∃a' p',uK a.length a p l a' p'∧r=(bif kV a' b m p' then(a',b,m,p',0) else(a,b,m,p,8)))∧(¬wD a.length l→r=(a,b,m,p,1))
theorem Qs {k}(hk:100<k){a b m p}{l:List zI}(h:wW a b m p)(hl:l.length≤80):∃r,qp k a b m p l=some r∧sS a b m p l r:=by
 unfold qp sS;have e:decide (((l.length:Nat):Int)>64)=decide (¬l.length≤64):=by
  grind
 rw[e];by_cases bS:l.length≤64
 case neg=>
  rw[aa bS];exact⟨_,rfl,fun e=>absurd e.2 bS,by simp⟩
 rw[ab,vLe (by omega) (by omega)];cases hm:n9 a.length l with
 |false=>
  refine⟨_,rfl,fun e=>?_,by simp⟩;rw[BX.2 e.1] at hm;cases hm
 |true=>
  have aT:wD a.length l:=⟨BX.1 hm,bS⟩;simp only[Lc (show 10<k by omega) h.toSized,ae];obtain⟨a',p',h1,h2⟩:=vNg (b:=b) (m:=m) (show l.length<k by omega) h.nums aT a b m p;rw[h1];simp only[ae,yP6 (show 10<k by omega)];cases hB:kV a' b m p' with
  |true=>exact⟨_,rfl,by grind,by grind⟩
  |false=>exact⟨_,rfl,by grind,by grind⟩
theorem vS2 {k}(hk:100<k){a b m p}{l:List zI}(h:wW a b m p)(hl:l.length≤80):∃r,BZ k a b m p l=some r∧sS a b m p l r:=by
 unfold BZ sS;rw[ySl (by omega) (by omega)];cases hm:n9 a.length l with
 |false=>
  refine⟨_,rfl,fun e=>?_,by simp⟩;rw[BX.2 e.1] at hm;cases hm
 |true=>
  by_cases bS:l.length≤64
  case neg=>
   rw[ab bS];exact⟨_,rfl,fun e=>absurd e.2 bS,by simp⟩
  have aT:wD a.length l:=⟨BX.1 hm,bS⟩;have h6:=h.n6;rw[aa bS];simp only[Lb (show 10<k by omega) h.toSized,ae];obtain⟨a',p',h1,h2⟩:=vZz (b:=b) (m:=m) (show a.length<k by omega) (by grind) (by omega) h.nums aT a b m p;rw[h1];simp only[ae,yY5 (show 10<k by omega)];cases hB:kV a' b m p' with
  |true=>exact⟨_,rfl,by grind,by grind⟩
  |false=>exact⟨_,rfl,by grind,by grind⟩
theorem sS.same {a b m p l r r'}(h:sS a b m p l r)(h':sS a b m p l r'):r=r':=by
 by_cases c:wD a.length l
 ·obtain⟨a1,p1,x,rfl⟩:=h.1 c;obtain⟨a2,p2,y,rfl⟩:=h'.1 c;obtain⟨rfl,rfl⟩:=x.same y;rfl
 ·rw[h.2 c,h'.2 c]
theorem YV {k n i p}(hk:n<k)(hn:n≤100)(hi:i<n)(hp:p.length=n)(hr:(p.getD i []).length=n)(hb:∀j,-72057594037927936≤cell p i j∧cell p i j≤72057594037927936)(a:List yA) b m:
  Qt k a b m p i=some (qI (cell p i) n):=by
 obtain ⟨s, h1, h2⟩ := vB (L := fun c j (s : Int) => FJ k c i s j a b m p) (N := n) (fun s => s) (fun j s => s = qI (cell p i) j) (fun c s hs=>by
   show FK k _ i s n a b m p=_;unfold FK;simp only [qA, qV, ao, hp, hr, aa hi, ab (Nat.lt_irrefl _), ak, ai]) (fun c j s hj hs=>by
   refine⟨qI (cell p i) (j+1),?_,rfl⟩;show FK k _ i s j a b m p=_;have h1:=xK hb j;have h2:=hb j;unfold FK;simp only[qA,qD hj (by grind),qV,ao,hp,hr,aa hi,aa hj];show FJ k c i (zA (s+cell p i j)) _ a b m p=_;rw[hs,zQ];rfl) (s:=0) hk rfl
 unfold Qt;simp_all
theorem Qu {a b m p}(hb:wW a b m p){i}(hi:i<a.length) j:-72057594037927936≤cell p i j∧cell p i j≤72057594037927936:=by
 by_cases hj:j<a.length
 ·have:=hb.net i hi j hj;simp[iB] at this;omega
 ·have:cell p i j=0:=by
   unfold cell;rw[bX,List.getElem?_eq_none]
   ·rfl
   ·rw[hb.pr i hi];omega
  omega
theorem Lr {S X:Type}{L:Nat→Int→S→Option X}{N} ok (e:S→X) b (inv:Nat→S→Prop)(bL:∀n s,inv N s→L (n+1) (N:Int) s=some (e s))
  (aI:∀n i s,i<N→inv i s→(ok i=true→∃s',L (n+1) (i:Int) s=L n ((i+1:Nat):Int) s'∧inv (i+1) s')∧(ok i=false→L (n+1) (i:Int) s=some b)):
  ∀c i n s,i+c=N→c<n→inv i s→(qB ok c i=true∧∃s',L n (i:Int) s=some (e s')∧inv N s')∨(qB ok c i=false∧L n (i:Int) s=some b)
 |0,i,n,s,h,hn,hs=>by
  obtain⟨n,rfl⟩:=ara n;have:i=N:=by omega
  subst this;exact .inl ⟨rfl,s,bL n s hs,hs⟩
 |c+1,i,n,s,h,hn,hs=>by
  obtain⟨n,rfl⟩:=ara n;obtain⟨h1,h2⟩:=aI n i s (by omega) hs;unfold qB;cases ho:ok i with
  |true=>
   obtain⟨s',h3,h4⟩:=h1 ho;rw[h3];exact Lr ok e b inv bL aI c (i+1) n s' (by omega) (by omega) h4
  |false=>simp_all
def dS (l:List zI)(i j:Nat):Int:=zR (gS i j) l-zR (gS j i) l
def uL (b p:EQ)(l:List zI)(i j:Nat):Bool:= !(decide (zR (gS i j) l>0)&&(!decide (cell b i j= -1)&&decide (cell p i j+dS l i j>cell b i j)))
def gY (a:List yA)(b:EQ)(m:AC)(p:EQ)(l:List zI)(i:Nat):Bool:=
 !decide (zR (gN i) l + zR (gR i) l = 0) && (!qB (uL b p l i) a.length 0 || (decide ((a.getD i ad).1+(a.getD i ad).2.1+zR (gB i) l<0)||
  ((decide (zR (gN i) l>0)&&decide ((a.getD i ad).1+(a.getD i ad).2.1+zR (gB i) l<jF (a.getD i ad).2.2 (zR (gR i) l)))||
   (!decide (m.getD i 0= -1)&&decide (qI (cell p i) a.length-zR (gB i) l>m.getD i 0)))))
theorem FL {n l}(hl:wD n l) i j:-70368744177664≤dS l i j∧dS l i j≤70368744177664:=by
 have h1:=uJ hl i j;have h2:=uJ hl j i;unfold dS;omega
theorem vPb {k:Nat}{a:List yA}{b:EQ}{m:AC}{p:EQ}{l:List zI}(hk:100<k)(hb:wW a b m p)(hl:wD a.length l){i:Nat}(hi:i<a.length)(x y n0 dQ:Int)
  (Ep:-6917529027641081856≤n0∧n0≤6917529027641081856) (qo:-576460752303423488≤dQ∧dQ≤576460752303423488):
  sU k k l i x y n0 dQ 0 a b m p=some (bif qB (uL b p l i) a.length 0 then .inl ((i:Int),x,y,n0-qI (dS l i) a.length,dQ+qI (dS l i) a.length,a,b,m,p) else .inr true):=by
 have h6:=hb.n6;have bK:l.length<k:=by have:=hl.2;omega
 have := Lr (L := fun c j (s : Int × Int) => sU k c l i x y s.1 s.2 j a b m p) (N := a.length) (uL b p l i) (fun s => .inl ((i : Int), x, y, s.1, s.2, a, b, m, p)) (.inr true) (fun j s => s = (n0 - qI (dS l i) j, dQ + qI (dS l i) j)) (fun c s hs=>by
   show FM k _ l i x y s.1 s.2 a.length a b m p=_;unfold FM;simp only [qV, ab (Nat.lt_irrefl _), ak]) (fun c j s hj hs=>by
   have Es:=xK (fun j=>FL hl i j) j;have EP:=FL hl i j;have hj1:(j:Int)*70368744177664≤6*70368744177664:=by omega
   have qo:=hb.nums.net i hi j hj;have e1:sU k (c+1) l i x y s.1 s.2 j a b m p=bif uL b p l i j then sU k c l i x y (n0-qI (dS l i) (j+1)) (dQ+qI (dS l i) (j+1)) ((j+1:Nat):Int) a b m p else some (.inr true):=by
    show FM k _ l i x y s.1 s.2 j a b m p=_;unfold FM;simp only[qA,qD hj (show a.length<9223372036854775808 by omega),qV,ao,aa hi,aa hj,ai,YP bK hl,ae,hb.bl,hb.br i hi,hb.pl,hb.pr i hi];have ed:zA (zR (gS i j) l-zR (gS j i) l)=dS l i j:=zQ (by have:=EP.1;unfold dS at this;omega) (by have:=EP.2;unfold dS at this;omega);rw[ed];have e2:zA (s.1-dS l i j)=n0-qI (dS l i) (j+1):=by
     rw[hs];show zA (n0-qI (dS l i) j-dS l i j)=n0-(qI (dS l i) j+dS l i j);rw[zQ];omega
    have e3:zA (s.2+dS l i j)=dQ+qI (dS l i) (j+1):=by
     rw[hs];show zA (dQ+qI (dS l i) j+dS l i j)=dQ+(qI (dS l i) j+dS l i j);rw[zQ];omega
    rw[e2,e3];show(bif decide (zR (gS i j) l>0) then(bif !decide (cell b i j= -1) then(bif decide (zA (cell p i j+dS l i j)>cell b i j) then _ else _) else _) else _)=_;rw[zQ (x:=cell p i j+dS l i j)];unfold uL;cases decide (zR (gS i j) l>0)<;>cases decide (cell b i j= -1)<;>cases decide (cell p i j+dS l i j>cell b i j)<;>rfl
   refine⟨fun ho=>⟨_,?_,rfl⟩,fun ho=>?_⟩
   ·rw[e1,ho];rfl
   ·rw [e1, ho]; rfl) a.length 0 k (n0, dQ) (by omega) (by omega) (by
    show(n0,dQ)=(n0-0,dQ+0);rw[Int.sub_zero,Int.add_zero])
 rcases this with⟨h1,s,h2,h3⟩|⟨h1,h2⟩
 ·have Qv:sU k k l i x y n0 dQ 0 a b m p=_:=h2;rw[Qv,h1,h3];rfl
 ·have Qv:sU k k l i x y n0 dQ 0 a b m p=_:=h2;rw[Qv,h1];rfl
theorem yJn {n l}(hl:∀p∈l,yN n p) i (hi:i<n):qI (dS l i) n= -zR (gB i) l:=yFz hl i hi
theorem vI8 {k a b m p l}(hk:100<k)(hb:wW a b m p)(hl:wD a.length l){i}(hi:i<a.length):Qw k a b m p l i=some (gY a b m p l i):=by
 have h6:=hb.n6;have bK:l.length<k:=by have:=hl.2;omega
 have hN:=vBe hl i;have hR:=BY hl i;have hx:=hb.acct i hi;simp only[fI,aR,aZ] at hx;have qq:-4611686018427387904<(a.getD i ad).1∧(a.getD i ad).1<4611686018427387904∧0≤(a.getD i ad).2.1∧(a.getD i ad).2.1≤2305843009213693952∧0≤(a.getD i ad).2.2∧(a.getD i ad).2.2≤2305843009213693952:=by grind
 have qo:=xK (Qu hb hi) a.length;unfold Qw;rw[yNh bK hl];simp only[ae];rw[zQ (x:=zR (gN i) l+zR (gR i) l) (by omega) (by omega)];unfold gY;cases hz:decide (zR (gN i) l+zR (gR i) l=0) with
 |true=>rfl
 |false=>
  rw[qA,aa hi];simp only[ao];rw[YV (by omega) (by omega) hi hb.pl (hb.pr i hi) (Qu hb hi)];simp only[ae];rw[zQ (x:=(a.getD i (0,(0,0))).1+(a.getD i (0,(0,0))).2.1) (by omega) (by omega)];rw[vPb hk hb hl hi _ _ _ _ (by omega) (by omega),yJn hl.1 i hi];cases qB (uL b p l i) a.length 0 with
  |false=>rfl
  |true=>
   have hK:=yZc k (a.getD i ad).1 (a.getD i ad).2.1 (a.getD i ad).2.2 (zR (gR i) l) (by omega) (by omega) hR.1;simp[qA,hb.ml];grind
theorem vM0 {k:Nat}{a:List yA}{b:EQ}{m:AC}{p:EQ}{l:List zI}(hk:100<k)(hb:wW a b m p)(hl:wD a.length l):∃r,uM k a b m p l=some r∧(r=[]↔qB (fun i=> !gY a b m p l i) a.length 0=true):=by
 have h6:=hb.n6;obtain ⟨r, h1, h2⟩ := vB (L := fun c i (r : AC) => uN k c l i a b m p r) (N := a.length) (fun r => r) (fun i r => (r = [] ↔ ∀ j, j < i → gY a b m p l j = false) ∧ r.length ≤ i) (fun c r hr=>by
   show sV k _ l a.length a b m p r=_;unfold sV;simp only [qV, ab (Nat.lt_irrefl _), ak]) (fun c i r hi hr=>by
   have aY:zO (r.length+1) 8=true:=qG;have e:uN k (c+1) l i a b m p r=uN k c l ((i+1:Nat):Int) a b m p (bif gY a b m p l i then r++[(i:Int)] else r):=by
    show sV k _ l i a b m p r=_;unfold sV;simp only[qD hi (show a.length<9223372036854775808 by omega),qV,aa hi,ai,vI8 hk hb hl hi,ae,aY];cases gY a b m p l i<;>rfl
   refine⟨_,e,?_⟩;cases hs:gY a b m p l i with
   |true=>
    refine⟨⟨fun h=>?_,fun h=>?_⟩,by simp only[ai,aA,List.length_cons,List.length_nil];omega⟩
    ·simp at h
    ·rw[h i (Nat.lt_succ_self i)] at hs;cases hs
   |false=>
    refine⟨⟨fun h j hj=>?_,fun h=>?_⟩,by simp only[ak];omega⟩
    ·by_cases c:j=i
     ·subst c;exact hs
     ·exact hr.1.1 h j (by omega)
    ·exact hr.1.2 fun j hj=>h j (by omega)) (s:=[]) (show a.length<k by omega) ⟨⟨fun _ j hj=>absurd hj (Nat.not_lt_zero j),fun _=>rfl⟩,Nat.le_refl 0⟩
 unfold uM;rw[h1];refine⟨r,rfl,h2.1.trans ?_⟩;rw[wI];exact⟨fun h j hj=>by rw[h j hj];rfl,fun h j hj=>by have:=h j hj;simpa using this⟩
def xV (a:List yA)(b:EQ)(m:AC)(p:EQ)(l:List zI):Bool:=(n9 a.length l&&decide (l.length≤64))&&qB (fun i=> !gY a b m p l i) a.length 0
theorem vNs {k a b m p}{l:List zI}(hk:100<k)(hb:wW a b m p)(hl:l.length≤80):Ls k a b m p l=some (xV a b m p l):=by
 unfold Ls xV;rw[ySl (by omega) (by omega)];cases hm:(n9 a.length l&&decide (l.length≤64)) with
 |false=>rfl
 |true=>
  simp  at hm;obtain⟨r,h1,h2⟩:=vM0 hk hb ⟨BX.1 hm.1,hm.2⟩;simp_all
theorem YW {k n i p}(hk:n<k)(hn:n≤100)(hi:i<n)(hp:p.length=n)(hr:(p.getD i []).length=n)(hb:∀j,-72057594037927936≤cell p i j∧cell p i j≤72057594037927936)(a:List yA) b m:
  Qx k a b m p i=some (qI (cell p i) n):=by
 obtain ⟨s, h1, h2⟩ := vB (L := fun c j (s : Int) => FN k c s (p.getD i []) n j) (N := n) (fun s => s) (fun j s => s = qI (cell p i) j) (fun c s hs=>by
   show FO k _ s (p.getD i []) n n=_;unfold FO;simp) (fun c j s hj hs=>by
   refine⟨qI (cell p i) (j+1),?_,rfl⟩;show FO k _ s (p.getD i []) n j=_;have h1:=xK hb j;have h2:=hb j;unfold FO;simp only[qA,qD hj (by grind),qV,hr,aa hj];show FN k c (zA (s+cell p i j)) _ _ _=_;rw[hs,zQ];rfl) (s:=0) hk rfl
 unfold Qx;simp[qA];simp_all
theorem yZh k {n:Nat}(hn:n≤6):Lt k n=some true:=by
 unfold Lt;grind
theorem vGq {α:Type}(v z:α) n i (hi:i<n):(List.replicate i v++List.replicate (n-i) z).set i v=List.replicate (i+1) v++List.replicate (n-(i+1)) z:=by
 have e:List.replicate (n-i) z=z::List.replicate (n-(i+1)) z:=by
  rw[show n-i=(n-(i+1))+1 by omega];rfl
 rw[List.set_append_right _ _ (by simp),List.length_replicate,Nat.sub_self,e];simp[List.replicate_succ']
theorem vEf {k n}(hk:n<k)(hn:n≤6) v:B1 k n v=some (List.replicate n v):=by
 unfold B1;rw[yZh k hn];obtain ⟨s, h1, h2⟩ := vB (L := fun c i (s : AC) => Lu k c v n i s) (N := n) (fun s => s) (fun i s => s = List.replicate i v ++ List.replicate (n - i) 0) (fun c s hs=>by
   show FP k _ v n n s=_;unfold FP;simp) (fun c i s hi hs=>by
   refine⟨_,?_,rfl⟩;show FP k _ v n i s=_;have hl:s.length=n:=by grind
   unfold FP;simp[qA,qD hi (by grind),aa hi,hl];rw[hs,vGq v 0 n i hi]) (s:=List.replicate n 0) hk (by simp)
 grind
theorem vQi {k n}(hk:n<k)(hn:n≤6) v:FQ k n v=some (List.replicate n (List.replicate n v)):=by
 unfold FQ;rw[yZh k hn];obtain ⟨s, h1, h2⟩ := vB (L := fun c i (s : EQ) => Lv k c n v n i s) (N := n) (fun s => s) (fun i s => s = List.replicate i (List.replicate n v) ++ List.replicate (n - i) []) (fun c s hs=>by
   show FR k _ n v n n s=_;unfold FR;simp) (fun c i s hi hs=>by
   refine⟨_,?_,rfl⟩;show FR k _ n v n i s=_;have hl:s.length=n:=by grind
   unfold FR;simp[qA,qD hi (by grind),aa hi,hl,vEf hk hn];rw[hs,vGq (List.replicate n v) [] n i hi]) (s:=List.replicate n []) hk (by simp)
 grind
def uO (a:List yA)(b:EQ)(m:AC)(p:EQ)(l:List zI):AC:=((List.range a.length).filter fun i=>gY a b m p l i).map fun(i:Nat)=>(i:Int)
structure Qy (n:Nat) (l:List zI) (r2 r3:AC) (m4:EQ):Prop where
 l2:r2.length=n
 l3:r3.length=n
 l4:m4.length=n
 r4:∀i,i<n→(m4.getD i []).length=n
 more:∀i,i<n→r2.getD i 0=zR (gB i) l
 spent:∀i,i<n→r3.getD i 0=zR (gR i) l
 sent:∀i,i<n→∀j,j<n→cell m4 i j=dS l i j
def Lw (p:zI)(r:AC):AC:=
 let y0:=r.set p.2.1.toNat (zA (r.getD p.2.1.toNat 0-p.2.2.2.1))
 y0.set p.2.2.1.toNat (zA (y0.getD p.2.2.1.toNat 0+p.2.2.2.1))
def Lx (p:zI)(r:AC):AC:=bif !decide (p.2.2.2.2.1=3) then r.set p.2.1.toNat (zA (r.getD p.2.1.toNat 0+p.2.2.2.1)) else r
theorem YX {n p}(h:yN n p){r}(hr:r.length=n){i}(hi:i<n)(hb:∀i,i<n→-4611826755915743232<r.getD i 0∧r.getD i 0<4611826755915743232):(Lw p r).getD i 0=r.getD i 0+gB i p:=by
 obtain⟨f0,f1,t0,t1,ne,a1,a2,c1,c3⟩:=h;obtain⟨f,hf⟩:∃f:Nat,p.2.1=f:=⟨p.2.1.toNat,by omega⟩;obtain⟨t,ht⟩:∃t:Nat,p.2.2.1=t:=⟨p.2.2.1.toNat,by omega⟩;have Qn:f≠t:=by omega
 have iC:f<n:=by omega
 have gX:t<n:=by omega
 unfold Lw gB;simp only[hf,ht,ao];have b1:=hb f iC;have b2:=hb t gX;have key:∀x,(r.set f (zA (r.getD f 0-p.2.2.2.1))).getD x 0=if f=x then zA (r.getD f 0-p.2.2.2.1) else r.getD x 0:=by grind
 rw[fG,List.length_set,key t,if_neg Qn,key i];by_cases h1:t=i
 ·subst h1;rw[if_pos (by grind),if_pos rfl,if_neg (by omega),zQ];omega
 ·rw[if_neg (by grind),if_neg (c:=((t:Int)=i)) (by omega)];by_cases h2:f=i
  ·subst h2;rw[if_pos rfl,if_pos rfl,zQ];omega
  omega
theorem YY {n p}(h:yN n p){r}(hr:r.length=n){i}(hi:i<n)(hb:∀i,i<n→-4611826755915743232<r.getD i 0∧r.getD i 0<4611826755915743232):(Lx p r).getD i 0=r.getD i 0+gR i p:=by
 obtain⟨f0,f1,t0,t1,ne,a1,a2,c1,c3⟩:=h;obtain⟨f,hf⟩:∃f:Nat,p.2.1=f:=⟨p.2.1.toNat,by omega⟩;have iC:f<n:=by omega
 have b1:=hb f iC;unfold Lx gR;simp only[hf,ao];by_cases hc:p.2.2.2.2.1=3
 ·simp_all
 ·rw[ab hc];simp only[bN,ai];rw[fG];by_cases h2:f=i
  ·subst h2;rw[if_pos (by grind),if_pos (by grind),zQ]
  omega
theorem vOn l p i j:dS (l++[p]) i j=dS l i j+gS i j p-gS j i p:=by
 unfold dS;rw[kS,kS];dsimp only[zR];omega
theorem Qz {α:Type} n i (v d:α)(h:i<n):(List.replicate n v).getD i d=v:=by
 simp_all
theorem YZ {k n l}(hk:100<k)(hn:n≤6)(hl:wD n l):∃r2 r3 m4,QA k n l=some (r2,r3,m4)∧Qy n l r2 r3 m4:=by
 have oc:=hl.2;have := vB (L := fun c i (s : AC × AC × EQ) => Ly k c l l.length i s.1 s.2.1 s.2.2) (N := l.length) (fun s => s) (fun i s => Qy n (l.take i) s.1 s.2.1 s.2.2) (fun c s hs=>by
   show FT k _ l l.length l.length s.1 s.2.1 s.2.2=_;unfold FT;simp) (fun c i s hi hs=>by
   have bZ:yN n (l.getD i pd):=hl.1 _ (fU hi);refine⟨(Lw (l.getD i pd) s.1,Lx (l.getD i pd) s.2.1,xR (l.getD i pd) s.2.2),?_,?_⟩
   ·show FT k _ l l.length i s.1 s.2.1 s.2.2=_;unfold FT Lw Lx xR;simp only[qA,qD hi (by grind),qV,ao,aa hi,ai];obtain⟨f0,f1,t0,t1,ne,a1,a2,c1,c3⟩:=bZ;obtain⟨f,hf⟩:∃f:Nat,(l.getD i pd).2.1=f:=⟨(l.getD i pd).2.1.toNat,by omega⟩;obtain⟨t,ht⟩:∃t:Nat,(l.getD i pd).2.2.1=t:=⟨(l.getD i pd).2.2.1.toNat,by omega⟩;have iC:f<n:=by omega
    have gX:t<n:=by omega
    have r1:=Qm (x:=zA ((s.2.2.getD f []).getD t 0+(l.getD i pd).2.2.2.1)) (t:=t) hs.l4 hs.r4 iC;simp only[hf,ht,ao,qA,hs.l2,hs.l3,hs.l4,List.length_set,hs.r4 f iC,r1 t gX,aa iC,aa gX,ai];grind
   ·have aT:=hl.take i;have hp := vE4 bZ hs.l4 hs.r4 (fun i' bI j' mV=>by
     rw[hs.sent i' bI j' mV];have:=FL aT i' j';omega)
    have hbM:∀i',i'<n→-4611826755915743232<s.1.getD i' 0∧s.1.getD i' 0<4611826755915743232:=fun i' bI=>by
     rw[hs.more i' bI];have:=YL aT i';omega
    have hbS:∀i',i'<n→-4611826755915743232<s.2.1.getD i' 0∧s.2.1.getD i' 0<4611826755915743232:=fun i' bI=>by
     rw[hs.spent i' bI];have:=BY aT i';omega
    refine⟨by unfold Lw;simp[hs.l2],by unfold Lx;cases decide ((l.getD i pd).2.2.2.2.1=3)<;>simp[hs.l3],hp.1,hp.2.1,fun i' bI=>?_,fun i' bI=>?_,fun i' bI j' mV=>?_⟩
    ·rw[YX bZ hs.l2 bI hbM,hs.more i' bI,←fF l i pd hi,kS];dsimp only[zR];omega
    ·rw[YY bZ hs.l3 bI hbS,hs.spent i' bI,←fF l i pd hi,kS];dsimp only[zR];omega
    ·rw[hp.2.2 i' bI j' mV,hs.sent i' bI j' mV,←fF l i pd hi,vOn]) (n:=k) (s:=(List.replicate n 0,List.replicate n 0,List.replicate n (List.replicate n 0))) (by omega) ⟨by simp,by simp,by simp,by grind,fun i hi=>by rw[Qz n i _ _ hi];rfl,fun i hi=>by rw[Qz n i _ _ hi];rfl,fun i hi j hj=>by
    unfold cell;rw[Qz n i _ _ hi,Qz n j _ _ hj];rfl⟩
 obtain⟨s,h1,h2⟩:=this;rw[List.take_of_length_le (Nat.le_refl _)] at h2;refine⟨s.1,s.2.1,s.2.2,?_,h2⟩;unfold QA;rw[vEf (by omega) hn,vQi (by omega) hn];simp_all
theorem Y0 {k}{l:List zI}(hk:l.length<k)(hl:l.length<9223372036854775808) i:QB k l i=some (!qB (fun x=> !decide ((l.getD x pd).2.1=i)) l.length 0):=by
 obtain ⟨x, h1, h2⟩ := qi (L := fun c x => LA k c l l.length x i) (N := l.length) (fun x => decide ((l.getD x pd).2.1 = i)) (fun c=>by
   show FU k _ l l.length l.length i=_;unfold FU;simp) (fun c x hx=>by
   show FU k _ l l.length x i=_;unfold FU Y1;simp[qA,qD hx hl,aa hx]) hk
 unfold QB Y2;grind
theorem yGy {n:Nat}{l:List zI}(hl:∀p∈l,yN n p)(i:Nat):qB (fun x=> !decide ((l.getD x pd).2.1=i)) l.length 0=decide (zR (gN i) l+zR (gR i) l=0):=by
 have hN:=xJ (g:=gN i) (l:=l) fun p hp=>(Qp (hl p hp) i).1
 have hR:=xJ (g:=gR i) (l:=l) fun p hp=>(Qk (hl p hp) i).1
 have e:zR (gN i) l+zR (gR i) l=zR (fun p:zI=>if p.2.1=(i:Int) then p.2.2.2.1 else 0) l:=by
  rw[←yW1];refine PT fun p hp=>?_
  unfold gN gR;omega
 rw[e];have h:∀(l:List zI),(∀p∈l,yN n p)→((∀p∈l,¬p.2.1=i)↔zR (fun p:zI=>if p.2.1=(i:Int) then p.2.2.2.1 else 0) l=0):=by
  intro l
  induction l with
  |nil=>intro _;simp[zR]
  |cons q l ih=>
   intro hm;have ih:=ih (by grind);have hq:=hm q (by simp);have h0:0≤zR (fun p:zI=>if p.2.1=i then p.2.2.2.1 else 0) l:=xJ fun p hp=>by
    have:=(hm p (by grind)).a1;omega
   unfold zR;by_cases c:q.2.1=i
   ·rw[if_pos c];have:=hq.a1;grind
   simp_all
 have bn:(∀p∈l,¬p.2.1=i)↔qB (fun x=> !decide ((l.getD x pd).2.1=i)) l.length 0=true:=by
  rw[wI];constructor
  ·intro h j hj
   simpa using h _ (fU hj)
  ·intro h p hp;obtain⟨j,hj,rfl⟩:=List.getElem_of_mem hp;have:=h j hj
   simpa[List.getD,hj] using this
 simp_all
def FV (n LB:Int):Bool:= !decide (LB= -1)&&decide (n>LB)
theorem yMb k n LB:FW k n LB=some (FV n LB):=by
 unfold FW FV;grind
theorem Y3 k b c r s (h:-9223372036854775808≤r-s)(h':r<9223372036854775808)(hs:0≤s):xS k b c r s=some (jF r s):=by
 unfold xS jF yE;rw[zQ h (by omega),ak];grind
def B2 (b p:EQ)(l:List zI)(i:Nat)(short:Bool)(q:zI):Bool:=
 decide (q.2.1=i)&&((decide (q.2.2.2.2.1=3)&&short)||FV (cell p i q.2.2.1.toNat+dS l i q.2.2.1.toNat) (cell b i q.2.2.1.toNat))
theorem vU2 {k a b m p l}(hk:100<k)(hb:wW a b m p)(hl:wD a.length l){r2 r3 m4}(hm:Qy a.length l r2 r3 m4){i}(hi:i<a.length) bal cr res n0 (kN:0≤res∧res≤2305843009213693952):
  QC k l i bal cr res r2 r3 m4 n0 a b m p=some (!qB (fun x=> !B2 b p l i (decide (n0<jF res (zR (gR i) l))) (l.getD x pd)) l.length 0):=by
 have oc:=hl.2;have hR:=BY hl i;obtain ⟨x, h1, h2⟩ := qi (L := fun c x => LC k c l l.length x i bal cr res r2 r3 m4 n0 a b m p) (N := l.length) (fun x => B2 b p l i (decide (n0 < jF res (zR (gR i) l))) (l.getD x pd)) (fun c=>by
   show FX k _ l l.length l.length i bal cr res r2 r3 m4 n0 a b m p=_;unfold FX;simp) (fun c x hx=>by
   show FX k _ l l.length x i bal cr res r2 r3 m4 n0 a b m p=_;have bZ:yN a.length (l.getD x pd):=hl.1 _ (by grind);unfold FX;simp only[qA,qD hx (by grind),qV,ao,aa hx];generalize l.getD x (0,(0,(0,(0,(0,(0,0))))))=q at bZ⊢;obtain⟨id,f,t,am,cl,st,ti⟩:=q;obtain⟨f0,f1,t0,t1,ne,a1,a2,c1,c3⟩:=bZ;dsimp only at f0 f1 t0 t1 ne a1 a2 c1 c3⊢;obtain⟨t,rfl⟩:∃y:Nat,t=y:=⟨t.toNat,by omega⟩;have gX:t<a.length:=by omega
   unfold Y4 B2;cases hf:decide (f=(i:Int)) with
   |false=>simp
   |true=>
    have e1:(r3.getD i 0)=zR (gR i) l:=hm.spent i hi;have e2:(m4.getD i []).getD t 0=dS l i t:=hm.sent i hi t gX;have qo:=hb.nums.net i hi t gX;have hd:=FL hl i t;have e3:zA ((p.getD i []).getD t 0+dS l i t)=cell p i t+dS l i t:=zQ (by show _≤cell p i t+dS l i t;omega) (by show cell p i t+dS l i t<_;omega);simp only[qA,hm.l3,hm.l4,hm.r4 i hi,hb.pl,hb.pr i hi,hb.bl,hb.br i hi,aa hi,aa gX,ao,e1,e2,e3,Y3 k bal cr res (zR (gR i) l) (by omega) (by omega) hR.1,ae,yMb];cases decide (cl=3)<;>cases decide (n0<jF res (zR (gR i) l))<;>rfl) (n:=k) (by omega)
 unfold QC Y5;grind
theorem Y6 {α g}:∀{l:List α},(∀p∈l,0≤g p)→(0<zR g l↔∃p∈l,0<g p)
 |[],_=>by simp[zR]
 |q::l,h=>by
  have ih:=Y6 (g:=g) (l:=l) (by grind);have h0:=xJ (g:=g) (l:=l) (by grind);unfold zR;grind
theorem QD {N p}:qB p N 0=false↔∃j,j<N∧p j=false:=by
 constructor
 ·apply Classical.byContradiction;intro hn;have:qB p N 0=true:=wI.2 (by grind);simp_all
 ·rintro⟨j,hj,hp⟩
  cases h:qB p N 0 with
  |false=>rfl
  |true=>rw[wI.1 h j hj] at hp;cases hp
theorem vWy {a:List yA}{b p l}(hl:wD a.length l){i}(hi:i<a.length) short:
  (!qB (fun x=> !B2 b p l i short (l.getD x pd)) l.length 0)=(!qB (uL b p l i) a.length 0||(decide (zR (gN i) l>0)&&short)):=by
 have hN:=Y6 (g:=gN i) (l:=l) fun p hp=>(Qp (hl.1 p hp) i).1
 have hS:=fun j=>Y6 (g:=gS i j) (l:=l) fun p hp=>(YK (hl.1 p hp) i j).1
 rw[Bool.eq_iff_iff];simp only[Bool.not_eq_true',Bool.or_eq_true,aR,aZ];rw[QD,QD];constructor
 ·rintro⟨x,hx,hb⟩
  have bZ:=hl.1 _ (fU (d:=pd) hx);have dp:=fU (d:=pd) hx;generalize l.getD x pd=q at hb bZ dp;simp only[B2,Bool.not_eq_false',aR,Bool.or_eq_true,aZ] at hb;obtain⟨hf,hb⟩:=hb;rcases hb with⟨hc,hs⟩|ho
  ·refine .inr ⟨hN.2 ⟨q,dp,?_⟩,hs⟩;unfold gN;rw[if_pos ⟨hf,hc⟩];have:=bZ.a1;omega
  ·have h1:=bZ.t0;have h2:=bZ.t1;refine .inl ⟨q.2.2.1.toNat,by omega,?_⟩;unfold uL;have me:zR (gS i q.2.2.1.toNat) l>0:=(hS _).2 ⟨q,dp,by
    unfold gS;rw[if_pos (by grind)];have:=bZ.a1;omega⟩
   rw[aa me];unfold FV at ho;simp_all
 ·rintro(⟨j,hj,hb⟩|⟨hp,hs⟩)
  ·simp only[uL,Bool.not_eq_false',aR,aZ] at hb;obtain⟨me,ho⟩:=hb;obtain⟨q,hq,hg⟩:=(hS j).1 me;obtain⟨x,hx,rfl⟩:=List.getElem_of_mem hq;refine⟨x,hx,?_⟩;have e:l.getD x pd=l[x]:=by simp[List.getD,hx]
   rw[e];unfold gS at hg;by_cases c:l[x].2.1=(i:Int)∧l[x].2.2.1=(j:Int)
   ·unfold B2 FV;simp_all
   ·rw[if_neg c] at hg;omega
  ·obtain⟨q,hq,hg⟩:=hN.1 hp;obtain⟨x,hx,rfl⟩:=List.getElem_of_mem hq;refine⟨x,hx,?_⟩;have e:l.getD x pd=l[x]:=by simp[List.getD,hx]
   rw[e];unfold gN at hg;by_cases c:l[x].2.1=(i:Int)∧l[x].2.2.2.2.1=3
   ·unfold B2;simp_all
   ·rw[if_neg c] at hg;omega
theorem vQs {k a b m p l}(hk:100<k)(hb:wW a b m p)(hl:wD a.length l){r2 r3 m4}(hm:Qy a.length l r2 r3 m4){i}(hi:i<a.length)(hs:decide (zR (gN i) l+zR (gR i) l=0)=false):
  QE k r2 r3 m4 a b m p i l=some (gY a b m p l i):=by
 have h6:=hb.n6;have oc:=hl.2;have hB:=YL hl i;have hx:=hb.acct i hi;simp only[fI,aR,aZ] at hx;have qq:-4611686018427387904<(a.getD i ad).1∧(a.getD i ad).1<4611686018427387904∧0≤(a.getD i ad).2.1∧(a.getD i ad).2.1≤2305843009213693952∧0≤(a.getD i ad).2.2∧(a.getD i ad).2.2≤2305843009213693952:=by grind
 have qo:=xK (Qu hb hi) a.length;have e1:r2.getD i 0=zR (gB i) l:=hm.more i hi;unfold QE;simp only[qA,aa hi,ai,ao,hm.l2,hm.l4,e1,hm.r4 i hi];rw[YW (by omega) (by omega) hi hb.pl (hb.pr i hi) (Qu hb hi)];rw[zQ (x:=(a.getD i ad).1+(a.getD i ad).2.1) (by omega) (by omega),zQ (x:=(a.getD i ad).1+(a.getD i ad).2.1+zR (gB i) l) (by omega) (by omega)];unfold gY;rw[hs];cases hn:decide ((a.getD i ad).1+(a.getD i ad).2.1+zR (gB i) l<0) with
 |true=>simp
 |false=>
  obtain ⟨s, q1, q2⟩ := vB (L := fun c j (s : Int) => B3 k c l s (m4.getD i []) a.length j r2 r3 m4 a b m p i (a.getD i ad).1 (a.getD i ad).2.1 (a.getD i ad).2.2 ((a.getD i ad).1 + (a.getD i ad).2.1 + zR (gB i) l)) (N := a.length) (fun s => (l, s, r2, r3, m4, a, b, m, p, (i : Int), (a.getD i ad).1, (a.getD i ad).2.1, (a.getD i ad).2.2, (a.getD i ad).1 + (a.getD i ad).2.1 + zR (gB i) l)) (fun j s => s = qI (cell p i) a.length + qI (dS l i) j) (fun c s hs=>by
    show FY k _ l s (m4.getD i []) a.length a.length r2 r3 m4 a b m p i (a.getD i ad).1 (a.getD i ad).2.1 (a.getD i ad).2.2 ((a.getD i ad).1+(a.getD i ad).2.1+zR (gB i) l)=_;unfold FY;simp) (fun c j s hj hs=>by
    refine⟨qI (cell p i) a.length+qI (dS l i) (j+1),?_,rfl⟩;show FY k _ l s (m4.getD i []) a.length j r2 r3 m4 a b m p i (a.getD i ad).1 (a.getD i ad).2.1 (a.getD i ad).2.2 ((a.getD i ad).1+(a.getD i ad).2.1+zR (gB i) l)=_;have e2:(m4.getD i []).getD j 0=dS l i j:=hm.sent i hi j hj;have Es:=xK (fun j=>FL hl i j) j;have EP:=FL hl i j;unfold FY;simp only[qA,qD hj (by grind),qV,ao,hm.r4 i hi,aa hj,ai,e2];rw[hs,zQ (x:=qI (cell p i) a.length+qI (dS l i) j+dS l i j) (by omega) (by omega),Int.add_assoc];rfl) (n:=k) (s:=qI (cell p i) a.length) (by omega) (by show _=_+0;omega)
  have q1':B3 k k l (qI (cell p i) a.length) (m4.getD i []) a.length 0 r2 r3 m4 a b m p i (a.getD i ad).1 (a.getD i ad).2.1 (a.getD i ad).2.2 ((a.getD i ad).1+(a.getD i ad).2.1+zR (gB i) l)=_:=q1;simp only[ak,ae];rw[show B3 k k l (qI (cell p i) a.length) (m4.getD i []) a.length 0 r2 r3 m4 a b m p i (a.getD i (0,(0,0))).1 (a.getD i (0,(0,0))).2.1 (a.getD i (0,(0,0))).2.2 ((a.getD i ad).1+(a.getD i ad).2.1+zR (gB i) l)=_ from q1'];simp only[ae,qA,hb.ml,aa hi,ai,ao,yMb];rw[vU2 hk hb hl hm hi _ _ _ _ (by grind),vWy hl hi,q2,yJn hl.1 i hi];have en:qI (cell p i) a.length+-zR (gB i) l=qI (cell p i) a.length-zR (gB i) l:=by omega
  rw[en];unfold FV;grind
theorem yJa f i:((List.range (i+1)).filter f).map (fun(x:Nat)=>(x:Int))=(((List.range i).filter f).map fun(x:Nat)=>(x:Int))++(bif f i then[(i:Int)] else[]):=by
 rw[List.range_succ,List.filter_append,List.map_append];grind
theorem Y7 {k a b m p l}(hk:100<k)(hb:wW a b m p)(hl:wD a.length l):B4 k a b m p l=some (uO a b m p l):=by
 have h6:=hb.n6;have oc:=hl.2;obtain⟨r2,r3,m4,g1,hm⟩:=YZ hk h6 hl;obtain ⟨r, h1, h2⟩ := vB (L := fun c i (r : AC) => FZ k c l a.length i a b m p r2 r3 m4 r) (N := a.length) (fun r => r) (fun i r => r = ((List.range i).filter fun i => gY a b m p l i).map fun (x : Nat) => (x : Int)) (fun c r hr=>by
   show F0 k _ l a.length a.length a b m p r2 r3 m4 r=_;unfold F0;simp) (fun c i r hi hr=>by
   have hle:r.length≤i:=by
    grind
   have aY:zO (r.length+1) 8=true:=qG;refine⟨_,?_,rfl⟩;show F0 k _ l a.length i a b m p r2 r3 m4 r=_;unfold F0;simp only[qD hi (by grind),Y0 (show l.length<k by omega) (by omega)];rw[yGy hl.1,yJa,←hr];cases hz:decide (zR (gN i) l+zR (gR i) l=0) with
   |true=>
    have:gY a b m p l i=false:=by unfold gY;simp_all
    simp_all
   |false=>
    rw[vQs hk hb hl hm hi hz];grind) (n:=k) (s:=[]) (by omega) rfl
 unfold B4;rw[g1];simp;have fa:FZ k k l a.length 0 a b m p r2 r3 m4 []=some r:=h1;rw[fa,h2];rfl
theorem vIi {k a b m p l}(hk:100<k)(hb:wW a b m p)(hl:wD a.length l):uM k a b m p l=some (uO a b m p l):=by
 have h6:=hb.n6;obtain ⟨r, h1, h2⟩ := vB (L := fun c i (r : AC) => uN k c l i a b m p r) (N := a.length) (fun r => r) (fun i r => r = ((List.range i).filter fun i => gY a b m p l i).map fun (x : Nat) => (x : Int)) (fun c r hr=>by
   show sV k _ l a.length a b m p r=_;unfold sV;simp) (fun c i r hi hr=>by
   have hle:r.length≤i:=by
    grind
   have aY:zO (r.length+1) 8=true:=qG;refine⟨_,?_,rfl⟩;show sV k _ l i a b m p r=_;unfold sV;simp[qD hi (by grind),vI8 hk hb hl hi];rw[yJa,←hr];grind) (s:=[]) (show a.length<k by omega) rfl
 unfold uM;have fa:uN k k l 0 a b m p []=some r:=h1;rw[fa,h2];rfl
theorem vRf {a b m p l}:decide (((uO a b m p l).length:Int)=0)=qB (fun i=> !gY a b m p l i) a.length 0:=by
 unfold uO;cases h:qB (fun i=> !gY a b m p l i) a.length 0 with
 |true=>
  rw[wI] at h;simp_all
 |false=>
  apply ab;intro h0;obtain⟨j,hj,hs⟩:=QD.1 h;simp_all
theorem Y8 {k}{l:List zI}(hk:l.length<k)(hl:l.length<9223372036854775808)(a:List yA) b m p:QF k l a b m p=some (!n9 a.length l):=by
 obtain ⟨x, h1, h2⟩ := qi (L := fun c i => LD k c l l.length i a b m p) (N := l.length) (fun i => !pv a.length (l.getD i pd)) (fun c=>by
  show F1 k _ l l.length l.length a b m p=_;unfold F1;simp) (fun c i hi=>by
  show F1 k _ l l.length i a b m p=_;unfold F1 Y9;simp[qA,qD hi hl,aa hi,Qh]) hk
 unfold QF Za;unfold n9;grind
theorem Zb {k a b m p}{l:List zI}(hk:100<k)(hb:wW a b m p)(hl:l.length≤80):B5 k a b m p l=some (xV a b m p l):=by
 unfold B5 xV;have e:decide ((l.length:Int)≤64)=decide (l.length≤64):=by
  grind
 rw[e,Y8 (by omega) (by omega)];cases bS:decide (l.length≤64) with
 |false=>simp
 |true=>
  cases hm:n9 a.length l with
  |false=>rfl
  |true=>
   have hr:wD a.length l:=⟨BX.1 hm,by grind⟩;simp only[ai,ae,aB,bN,Y7 hk hb hr,vRf,Bool.true_and]
def qL (l:List zI):Prop:=List.Pairwise (fun p q=>p.1≠q.1) l
theorem qL.filter {l}(h:qL l) f:qL (l.filter f):=List.Pairwise.filter f h
theorem B6 {α:Type} f (l:List α) i d (h:i<l.length):(l.take (i+1)).filter f=(l.take i).filter f++(bif f (l.getD i d) then[l.getD i d] else[]):=by
 rw[←fF l i d h,List.filter_append];rfl
theorem LF {α X:Type}(d:α){l:List α}{L:Nat→Int→List α→Option X}(f:α→Bool)(e:List α→X)(bL:∀n s,L (n+1) (l.length:Int) s=some (e s))
  (aI:∀n i s,i<l.length→s.length≤i→L (n+1) (i:Int) s=L n ((i+1:Nat):Int) (bif f (l.getD i d) then s++[l.getD i d] else s)) {n:Nat} (hn:l.length<n):
  L n 0 []=some (e (l.filter f)):=by
 obtain ⟨s', h1, h2⟩ := vB (L := L) (N := l.length) e (fun i s => s = (l.take i).filter f) (fun n s _ => bL n s) (fun n i s hi hs=>by
  refine⟨_,aI n i s hi ?_,?_⟩
  ·subst hs;have:=List.length_filter_le f (l.take i);rw[bY] at this;omega
  ·subst hs;rw[B6 f l i d hi];cases f (l.getD i d)<;>simp) (s:=[]) hn (by simp)
 rw[h1,h2,List.take_length]
def qW (l:List zI):Prop:=l.length≤9999
theorem oe {n}(h:n≤9999):zO (n+1) 56=true:=qG
def kh (t:Int)(p:zI):Bool:=bif decide (t≥p.2.2.2.2.2.1) then decide (t≤p.2.2.2.2.2.2) else false
theorem Zc {k l}(hk:l.length<k)(hl:qW l) t:F2 k l t=some (l.filter (kh t)):=by
 unfold F2 Zd;have := LF pd (L := fun n i s => LG k n l l.length i t s) (kh t) id (fun n s=>by
  show F3 k _ l l.length l.length t s=_;unfold F3;simp) (fun n i s hi hs=>by
  show F3 k _ l l.length i t s=_;unfold F3 qOp Ze;unfold qW at hl;simp[qA,qD hi (by grind),oe (show s.length≤9999 by omega)];unfold kh;grind) hk
 simp_all
theorem Zf {k l}(hk:l.length<k)(hl:qW l) t:F4 k l t=some (l.filter (kh t)):=by
 unfold F4;have := LF pd (L := fun n i s => LH k n l t i s) (kh t) id (fun n s=>by
  show F5 k _ l t l.length s=_;unfold F5;simp) (fun n i s hi hs=>by
  show F5 k _ l t i s=_;unfold F5 Zg;unfold qW at hl;simp[qA,qD hi (by grind),oe (show s.length≤9999 by omega)];unfold kh;grind) hk
 simp_all
def jA (f:Int)(p:zI):Bool:=decide (p.2.1=f)
theorem QG {k l}(hk:l.length<k)(hl:qW l) f:uP k l f=some (l.filter (jA f)):=by
 unfold uP;have := LF pd (L := fun n i s => LI k n l f i s) (jA f) id (fun n s=>by
  show F6 k _ l f l.length s=_;unfold F6;simp) (fun n i s hi hs=>by
  show F6 k _ l f i s=_;unfold F6;unfold qW at hl;simp[qA,qD hi (by grind),oe (show s.length≤9999 by omega)];unfold jA;grind) hk
 simp_all
def QH (r:List zI)(p:zI):Bool:=qB (fun x=>decide (((r.filter (jA p.2.1)).getD x pd).2.2.2.2.1=3)) (r.filter (jA p.2.1)).length 0
def QI (r:List zI)(p:zI):Bool:=decide ((r.filter (jA p.2.1)).getD 0 pd=p)
def sW (r:List zI)(p:zI):Bool:=QI r p||QH r p
def wC (l:List zI)(t:Int):List zI:=(l.filter (kh t)).filter (sW (l.filter (kh t)))
theorem eq7 (p q:zI):((decide (p.1=q.1))&&((decide (p.2.1=q.2.1))&&((decide (p.2.2.1=q.2.2.1))&&((decide (p.2.2.2.1=q.2.2.2.1))&&((decide (p.2.2.2.2.1=q.2.2.2.2.1))&&((decide (p.2.2.2.2.2.1=q.2.2.2.2.2.1))&&(decide (p.2.2.2.2.2.2=q.2.2.2.2.2.2))))))))=decide (p=q):=by
 grind
theorem Zh {k n:Nat}(s7:Int)(r0 r1 r2:List zI)(hk:r2.length<n)(hl:qW r2):
  F7 k n s7 true 0 r0 r1 r2=some (s7,qB (fun x=>decide ((r2.getD x pd).2.2.2.2.1=3)) r2.length 0,r0,r1,r2):=by
 obtain ⟨s', h1, h2⟩ := vB (L := fun n i s => F7 k n s7 s i r0 r1 r2) (N := r2.length) (fun s => (s7, s, r0, r1, r2)) (fun i s => s = qB (fun x => decide ((r2.getD x pd).2.2.2.2.1 = 3)) i 0) (fun n s _=>by
  show F8 k _ s7 s r2.length r0 r1 r2=_;unfold F8;simp only [qV, ab (Nat.lt_irrefl _), ak]) (fun n i s hi hs=>by
  refine⟨_,?_,rfl⟩;show F8 k _ s7 s i r0 r1 r2=_;unfold F8;unfold qW at hl;simp only[qA,qD hi (show r2.length<9223372036854775808 by omega),qV,ao,aa hi,ai];have e:qB (fun x=>decide ((r2.getD x pd).2.2.2.2.1=3)) (i+1) 0=(s&&decide ((r2.getD i pd).2.2.2.2.1=3)):=by
   rw[Bool.eq_iff_iff,hs];simp only[wI,aR,aZ];constructor
   ·intro h;exact⟨fun j hj=>h j (by omega),h i (by omega)⟩
   ·rintro⟨h1,h2⟩ j hj
    by_cases c:j=i
    ·subst c;exact h2
    ·exact h1 j (by omega)
  rw[e];cases s<;>rfl) (s:=true) hk rfl
 exact h1.trans (by rw[h2])
theorem vJ4 {k l}(hk:l.length<k)(hl:qW l) t:LJ k l t=some (wC l t):=by
 unfold LJ;rw[Zf hk hl];unfold wC;have dL:(l.filter (kh t)).length≤l.length:=by grind
 generalize l.filter (kh t)=r at dL;unfold qW at hl;have := LF pd (L := fun n i s => LK k n i r s) (l := r) (sW r) id (fun n s=>by
  show F9 k _ r.length r s=_;unfold F9;simp) (fun n i s hi hs=>by
  show F9 k _ i r s=_;unfold F9;have xj:(r.filter (jA (r.getD i pd).2.1)).length≤r.length:=by grind
  have tY:0<(r.filter (jA (r.getD i pd).2.1)).length:=by
   apply List.length_pos_of_mem (a:=r.getD i pd);rw[List.mem_filter];exact⟨fU hi,by simp[jA]⟩
  have Zi:=QG (k:=k) (l:=r) (by omega) (show r.length≤9999 by omega) (r.getD i pd).2.1;have b0:∀n:Nat,zB 0 n=decide (0<n):=fun n=>qA 0 n
  have e7:=eq7 ((r.filter (jA (r.getD i pd).2.1)).getD 0 pd) (r.getD i pd);simp only[ao];rw[Zi];simp only[ae];rw[Zh ((i:Nat):Int) r s _ (by omega) (show _≤9999 by omega)];simp[b0,qA,qD hi (by grind),oe (show s.length≤9999 by omega)];unfold sW QI QH;grind) (show r.length<k by omega)
 simp_all
def B7 (f:Int)(q:zI):Bool:=decide (q.2.1=f)&& !decide (q.2.2.2.2.1=3)
theorem Zj {k}{l:List zI}(hk:l.length<k)(hl:l.length<9223372036854775808) i f t a c s e:
  QJ k l i f t a c s e=some (!qB (fun x=> !B7 f (l.getD x pd)) l.length 0):=by
 obtain ⟨x, h1, h2⟩ := qi (L := fun n i' => LL k n l l.length i' i f t a c s e) (N := l.length) (fun x => B7 f (l.getD x pd)) (fun n=>by
  show Ga k _ l l.length l.length i f t a c s e=_;unfold Ga;simp) (fun n j hj=>by
  show Ga k _ l l.length j i f t a c s e=_;unfold Ga Zk;simp[qA,qD hj hl];unfold B7;grind) hk
 unfold QJ Zl;grind
theorem Zm (r:List zI)(p:zI):QH r p=true↔∀q∈r,q.2.1=p.2.1→q.2.2.2.2.1=3:=by
 unfold QH;rw[wI];constructor
 ·intro h q hq he;have hm:q∈r.filter (jA p.2.1):=List.mem_filter.2 ⟨hq,by simp[jA,he]⟩;obtain⟨i,hi,e⟩:=List.getElem_of_mem hm;have:=h i hi;rw[bX,List.getElem?_eq_getElem hi,e] at this
  simpa using this
 ·intro h j hj;have hm:=fU (d:=pd) hj;rw[List.mem_filter] at hm;have:=h _ hm.1 (by simpa[jA] using hm.2)
  simpa using this
theorem vPr (r:List zI)(f:Int):qB (fun x=> !B7 f (r.getD x pd)) r.length 0=true↔∀q∈r,q.2.1=f→q.2.2.2.2.1=3:=by
 rw[wI];constructor
 ·intro h q hq he;obtain⟨i,hi,e⟩:=List.getElem_of_mem hq;have:=h i hi;rw[bX,List.getElem?_eq_getElem hi,e] at this
  simpa[B7,he] using this
 ·intro h j hj;have:=h _ (fU (d:=pd) hj);simp only[B7,Bool.not_eq_true',Bool.and_eq_false_iff,Bool.not_eq_false',aZ,decide_eq_false_iff_not];by_cases c:(r.getD j pd).2.1=f
  ·exact .inr (this c)
  ·exact .inl c
theorem qL.split {r}(h:qL r){i}(hi:i<r.length):∀q∈r.take i,q.1≠(r.getD i pd).1:=by
 intro q hq;have e:r.take (i+1)=r.take i++[r.getD i pd]:=(fF r i pd hi).symm;have hs:qL (r.take (i+1)):=List.Pairwise.sublist (by grind) h;rw[e] at hs;exact(List.pairwise_append.1 hs).2.2 q hq _ (by simp)
theorem QK {α:Type} r i (d:α)(hi:i<r.length):r=r.take i++r.getD i d::r.drop (i+1):=by
 simp_all
theorem vNw {r}(h:qL r){i}(hi:i<r.length):QI r (r.getD i pd)= !(r.take i).any (jA (r.getD i pd).2.1):=by
 unfold QI;have e:∀f,jA f (r.getD i pd)=true→r.filter (jA f)=(r.take i).filter (jA f)++r.getD i pd::(r.drop (i+1)).filter (jA f):=by
  intro f hf;have:=congrArg (List.filter (jA f)) (QK r i pd hi);grind
 have e:=e (r.getD i pd).2.1 (by simp[jA]);rw[e];cases ha:(r.take i).any (jA (r.getD i pd).2.1) with
 |false=>
  have:(r.take i).filter (jA (r.getD i pd).2.1)=[]:=by
   simp_all
  grind
 |true=>
  cases hf:(r.take i).filter (jA (r.getD i pd).2.1) with
  |nil=>
   rw[List.filter_eq_nil_iff] at hf;grind
  |cons q l=>
   have hq:q∈r.take i:=(List.mem_filter.1 (hf▸List.mem_cons_self ..:q∈(r.take i).filter _)).1;have:=h.split hi q hq;grind
theorem Zn {r}(h:qL r){i}(hi:i<r.length):
  sW r (r.getD i pd)=(!(r.take i).any (jA (r.getD i pd).2.1)||(decide ((r.getD i pd).2.2.2.2.1=3)&&qB (fun x=> !B7 (r.getD i pd).2.1 (r.getD x pd)) r.length 0)):=by
 unfold sW;rw[vNw h hi]
 congr 1
 rw[Bool.eq_iff_iff,Zm,aR,vPr,aZ];grind
theorem lookup_cons (f g:Int)(l:List (Int×Bool)):(List.lookup f ((g,true)::l)).getD false=(decide (f=g)||(List.lookup f l).getD false):=by
 rw[List.lookup_cons];by_cases c:f=g
 ·subst c;simp
 ·have:(f==g)=false:=by simpa using c
  rw[this];simp[c]
theorem vHx {k:Nat}{l:List zI}(hk:l.length<k)(hl:qW l)(hd:qL l)(t:Int):LM k l t=some (wC l t):=by
 unfold LM;rw[Zc hk hl];simp only[ae];unfold wC;have dL:(l.filter (kh t)).length≤l.length:=List.length_filter_le _ _;have xl:=hd.filter (kh t);generalize l.filter (kh t)=r at dL xl;unfold qW at hl;unfold Zo;obtain ⟨s', h1, h2, h3⟩ := vB (L := fun n i (s : List (Int × Bool) × List zI) => Gc k n r r.length i s.1 r s.2) (N := r.length) (fun s => (s.1, r, s.2)) (fun i s => (∀ f, (List.lookup f s.1).getD false = (r.take i).any (jA f)) ∧ s.2 = (r.take i).filter (sW r)) (fun n s _=>by
  show Gd k _ r r.length r.length s.1 r s.2=_;unfold Gd;simp only [qV, ab (Nat.lt_irrefl _), ak]) (fun n i s hi hs=>by
  refine⟨(((r.getD i pd).2.1,true)::s.1,bif sW r (r.getD i pd) then s.2++[r.getD i pd] else s.2),?_,?_,?_⟩
  ·show Gd k _ r r.length i s.1 r s.2=_;unfold Gd Zp;have hlen:s.2.length≤i:=by
    rw[hs.2];have:=List.length_filter_le (sW r) (r.take i);rw[bY] at this;omega
   have hc:=Zj (k:=k) (l:=r) (by omega) (by omega) (r.getD i pd).1 (r.getD i pd).2.1 (r.getD i pd).2.2.1 (r.getD i pd).2.2.2.1 (r.getD i pd).2.2.2.2.1 (r.getD i pd).2.2.2.2.2.1 (r.getD i pd).2.2.2.2.2.2;have uy:=hs.1 (r.getD i pd).2.1;have hp:=Zn xl hi;simp only[pd] at hc uy hp⊢;simp only[qA,qD hi (show r.length<9223372036854775808 by omega),qV,ao,aa hi,ai,oe (show s.2.length≤9999 by omega)];rw[hc,uy,hp];generalize (r.take i).any _=x;generalize qB _ _ 0=y;generalize decide ((r.getD i (0,(0,(0,(0,(0,(0,0))))))).2.2.2.2.1=3)=z;cases x<;>cases y<;>cases z<;>rfl
  ·intro f;rw[lookup_cons,hs.1 f,←fF r i pd hi,List.any_append,Bool.or_comm]
   congr 1
   simp only[List.any_cons,List.any_nil,Bool.or_false,jA];rw[Bool.eq_iff_iff];simp only[aZ];exact eq_comm
  ·show(bif sW r (r.getD i pd) then s.2++[r.getD i pd] else s.2)=_;rw[hs.2,B6 _ _ _ pd hi];cases sW r (r.getD i pd)<;>simp) (s:=([],[])) (show r.length<k by omega) ⟨fun f=>by simp,by simp⟩
 have fa:Gc k k r r.length 0 [] r []=some (s'.1,r,s'.2):=h1;rw[fa,h3,List.take_length];rfl
def xW (p:Nat→Bool):Nat→Nat→Option Nat
 |0,_=>none
 |c+1,i=>bif p i then some i else xW p c (i+1)
def Zq:Option Nat→Unit⊕Int
 |some x=>.inr (x:Int)
 |none=>.inl ()
theorem Zr {L:Nat→Int→Option (Unit⊕Int)}{N:Nat} bad (bL:∀n,L (n+1) (N:Int)=some (.inl ()))
  (aI:∀n i,i<N→L (n+1) (i:Int)=bif bad i then some (.inr (i:Int)) else L n ((i+1:Nat):Int)):
  ∀c i n,i+c=N→c<n→L n (i:Int)=some (Zq (xW bad c i))
 |0,i,n,h,hn=>by
  obtain⟨n,rfl⟩:=ara n;have:i=N:=by omega
  subst this;exact bL n
 |c+1,i,n,h,hn=>by
  obtain⟨n,rfl⟩:=ara n;rw[aI n i (by omega)];unfold xW;cases hb:bad i with
  |true=>rfl
  |false=>
   exact Zr bad bL aI c (i+1) n (by omega) (by omega)
theorem yXq {p}:∀{c i x},xW p c i=some x→i≤x∧x<i+c∧p x=true∧∀j,i≤j→j<x→p j=false
 |c+1,i,x,h=>by
  unfold xW at h;cases hp:p i with
  |true=>
   grind
  |false=>
   rw[hp] at h;obtain⟨h1,h2,h3,h4⟩:=yXq h;grind
theorem yI2 {p}:∀{c i},xW p c i=none→∀j,i≤j→j<i+c→p j=false
 |0,_,_=>by grind
 |c+1,i,h=>by
  unfold xW at h;cases hp:p i with
  |true=>
   simp_all
  |false=>
   rw[hp] at h;intro j j1 j2;by_cases e:j=i
   ·simp_all
   ·exact yI2 h j (by omega) (by omega)
def vU (l:List zI)(id:Int):Option Nat:=xW (fun x=>decide ((l.getD x pd).1=id)) l.length 0
def fk (l:List zI)(id:Int):Int:=match vU l id with|some x=>(x:Int)|none=>-1
theorem kW {l id x}(h:vU l id=some x):x<l.length∧(l.getD x pd).1=id:=by
 obtain⟨_,h2,h3,_⟩:=yXq h;simp_all
theorem Zs {l id}(h:vU l id=none):∀p∈l,p.1≠id:=by
 intro p hp e;obtain⟨i,hi,e'⟩:=List.getElem_of_mem hp;have:=yI2 h i (by omega) (by omega);simp_all
theorem QL {l p}(h:p∈l):∃x,vU l p.1=some x:=by
 cases e:vU l p.1 with
 |some x=>simp
 |none=>exact absurd rfl (Zs e p h)
theorem LN {k}{l:List zI}(hk:l.length<k)(hl:l.length<9223372036854775808) id:mA k l id=some (fk l id):=by
 have := Zr (L := fun n i => Ge k n l id i) (N := l.length) (fun x => decide ((l.getD x pd).1 = id)) (fun n=>by
  show Gf k _ l id l.length=_;unfold Gf;simp) (fun n j hj=>by
  show Gf k _ l id j=_;unfold Gf;simp[qA,qD hj hl,aa hj]) l.length 0 k (by omega) hk
 have h1:Ge k k l id 0=some (Zq (vU l id)):=this;unfold mA fk;rw[h1];cases vU l id<;>rfl
theorem Gg {k}{l:List zI}(hk:l.length<k)(hl:l.length<9223372036854775808) id:pw k l id=some (fk l id):=by
 have := Zr (L := fun n i => Gh k n l l.length i id) (N := l.length) (fun x => decide ((l.getD x pd).1 = id)) (fun n=>by
  show Gj k _ l l.length l.length id=_;unfold Gj;simp) (fun n j hj=>by
  show Gj k _ l l.length j id=_;unfold Gj Zt;simp only[qA,qD hj hl,qV,aa hj];rfl) l.length 0 k (by omega) hk
 have h1:Gh k k l l.length 0 id=some (Zq (vU l id)):=this;unfold pw Zu fk;rw[h1];cases vU l id<;>rfl
def yL (l:List zI)(x:Nat):List zI:=l.take x++l.drop (x+1)
theorem og {l x}(h:x<l.length):(yL l x).length=l.length-1:=by
 unfold yL;grind
theorem uQ l x:List.Sublist (yL l x) l:=by
 unfold yL
 conv=>rhs;rw[←List.take_append_drop x l]
 grind
theorem qL.cut {l}(h:qL l) x:qL (yL l x):=List.Pairwise.sublist (uQ l x) h
theorem yL7 k {l}{x:Nat}(hx:x<l.length)(hl:qW l):LO k l x ((x+1:Nat):Int)=some (yL l x):=by
 unfold LO;have c1:(decide ((0:Int)≤(x:Int)))=true:=by simp
 have c2:decide ((x:Int)≤((x+1:Nat):Int))=true:=aa;have c3:decide (((x+1:Nat):Int)≤(l.length:Int))=true:=aa;have c4:decide ((l.length:Int)≤(l.length:Int))=true:=by simp
 have c5:decide ((x:Int)=((x+1:Nat):Int))=false:=ab;have c6:decide ((x:Int)≤(l.length:Int))=true:=aa;have c7:decide ((0:Int)≤((x+1:Nat):Int))=true:=aa;have c8:Nat.ble (x-0) (0+(x+1))=true:=by simp
 simp only[ao,c1,c2,c3,c4,c5,c6,c7,c8,ak];have e0:x-0+(l.length-(x+1))=l.length-1:=by omega
 have e1:List.take (x-0) l++qO l (0+(x+1)) (l.length-(x+1))=yL l x:=by
  unfold qO yL;rw[Nat.sub_zero,Nat.zero_add]
  congr 1
  rw[List.take_of_length_le];rw[List.length_drop];exact Nat.le_refl _
 have e2:(qO (yL l x++List.drop (l.length-1) l) 0 (l.length-1))=yL l x:=by
  unfold qO;rw[List.drop_zero,List.take_append_of_le_length (by rw[og hx];exact Nat.le_refl _),List.take_of_length_le (by rw[og hx];exact Nat.le_refl _)]
 have e3:(yL l x++List.drop (l.length-1) l).length=l.length:=by
  rw[aA,List.length_drop,og hx];omega
 have c9:decide ((0:Int)≤((yL l x).length:Int))=true:=by simp
 have QM:decide (((yL l x).length:Int)≤(l.length:Int))=true:=by grind
 have B8:decide ((l.length:Int)≤((l.length-0:Nat):Int))=true:=by simp
 have e4:List.take (0+(yL l x).length) (yL l x++List.drop (l.length-1) l)=yL l x:=by
  rw[Nat.zero_add,List.take_append_of_le_length (Nat.le_refl _),List.take_of_length_le (Nat.le_refl _)]
 simp only[e0,e1,e2,e3,c9,QM,B8,e4,Bool.and_true,ai];rw[List.append_assoc,List.take_append_of_le_length (by rw[og hx];exact Nat.le_refl _),List.take_of_length_le (by rw[og hx];exact Nat.le_refl _)]
def iD (l:List zI)(id:Int):List zI×Int×Int×Int×Int×Int×Int×Int×Int:=match vU l id with
 |some x=>(yL l x,(l.getD x pd).1,(l.getD x pd).2.1,(l.getD x pd).2.2.1,(l.getD x pd).2.2.2.1,(l.getD x pd).2.2.2.2.1,(l.getD x pd).2.2.2.2.2.1,(l.getD x pd).2.2.2.2.2.2,0)
 |none=>(l,0,0,0,0,0,0,0,4)
theorem B9 {k l}(hk:l.length<k)(hl:qW l) id:qs k l id=some (iD l id):=by
 unfold qW at hl;unfold qs;rw[Gg hk (by omega)];unfold fk iD;cases hp:vU l id with
 |none=>rfl
 |some x=>
  have hx:=(kW hp).1;have e1:decide ((x:Int)<0)=false:=by simp
  have e2:xX k l=some l:=by
   unfold xX;rw[qG];rfl
  simp only[ae,e1,ak,e2,qD hx (by grind),yL7 k hx hl,qA,aa hx,ai,ao]
def wA (q p:zI):Bool:=decide (q.2.1<p.2.1)||(decide (q.2.1=p.2.1)&&decide (q.2.2.2.2.1≤p.2.2.2.2.1))
def iX (q p:zI):Bool:=decide (q.2.1<p.2.1)||(decide (q.2.1=p.2.1)&&decide (q.2.2.2.2.1<p.2.2.2.2.1))
theorem vNu n x y:QN (n+3) [x,y]=some (if x=0 then y else x):=by
 have key:∀n:Nat,LP (n+3) (n+3) 0 [x,y] 2 0=bif !decide (x=0) then some (.inr x) else bif !decide (y=0) then some (.inr y) else some (.inl 0):=fun n=>rfl
 unfold QN;grind
theorem Zv k a b:LQ k a b=some (if a<b then-1 else if a>b then 1 else 0):=by
 unfold LQ QO;grind
theorem Zw {k}(hk:3≤k) q p:∃x,Gk k q.1 q.2.1 q.2.2.1 q.2.2.2.1 q.2.2.2.2.1 q.2.2.2.2.2.1 q.2.2.2.2.2.2 p.1 p.2.1 p.2.2.1 p.2.2.2.1 p.2.2.2.2.1 p.2.2.2.2.2.1 p.2.2.2.2.2.2=some x∧decide (x≤0)=wA q p∧decide (x<0)=iX q p:=by
 obtain⟨n,rfl⟩:∃n,k=n+3:=⟨k-3,by omega⟩;unfold Gk;simp only[Zv,vNu];refine⟨_,rfl,?_,?_⟩
 ·unfold wA;grind
 ·unfold iX;grind
def LR (ok:Nat→Bool):Nat→Nat→Nat
 |0,i=>i
 |c+1,i=>bif ok i then LR ok c (i+1) else i
theorem Gl {X:Type}{L:Nat→Int→Option X}{N:Nat} ok (e:Nat→X)(bL:∀n,L (n+1) (N:Int)=some (e N))
  (aI:∀n i,i<N→L (n+1) (i:Int)=bif ok i then L n ((i+1:Nat):Int) else some (e i)):∀c i n,i+c=N→c<n→L n (i:Int)=some (e (LR ok c i))
 |0,i,n,h,hn=>by
  obtain⟨n,rfl⟩:=ara n;have:i=N:=by omega
  subst this;exact bL n
 |c+1,i,n,h,hn=>by
  obtain⟨n,rfl⟩:=ara n;rw[aI n i (by omega)];unfold LR;cases ok i with
  |false=>rfl
  |true=>exact Gl ok e bL aI c (i+1) n (by omega) (by omega)
theorem Gm {α:Type} f (l:List α) d:∀c i,i+c=l.length→LR (fun x=>f (l.getD x d)) c i=i+((l.drop i).takeWhile f).length
 |0,i,h=>by
  rw[List.drop_eq_nil_of_le (by omega)];rfl
 |c+1,i,h=>by
  rw[List.drop_eq_getElem_cons (by grind)];unfold LR;have e:l.getD i d=l[i]:=by grind
  rw[e];cases hf:f l[i] with
  |false=>rw[List.takeWhile_cons_of_neg (by simp[hf])];rfl
  |true=>
   rw[List.takeWhile_cons_of_pos hf,ai,Gm f l d c (i+1) (by omega),List.length_cons];omega
theorem oh {α:Type} f (l:List α):l.take (l.takeWhile f).length=l.takeWhile f∧l.drop (l.takeWhile f).length=l.dropWhile f:=by
 have e:=List.takeWhile_append_dropWhile (p:=f) (l:=l);grind
theorem Ca {α:Type} f (l:List α):(l.takeWhile f).length≤l.length:=(List.takeWhile_sublist f).length_le
theorem Zx {α b} f l (p:α)(hl:l.length≤9999)(hb:b≤9999):ins b l (((l.takeWhile f).length:Nat):Int) [p]=some (l.takeWhile f++(p::l.dropWhile f)):=by
 unfold ins;have h:=Ca f l;have hm:(l.length+1)*b≤10000*9999:=Nat.mul_le_mul (by omega) hb;rw[aa (by simp),aa (by grind),qG (by grind) (by omega),ao,(oh f l).1,(oh f l).2];rfl
def px (l:List zI)(p:zI):List zI:=l.takeWhile (fun q=>wA q p)++(p::l.dropWhile (fun q=>wA q p))
def LS (l:List zI)(p:zI):List zI:=l.takeWhile (fun q=>iX q p)++(p::l.dropWhile (fun q=>iX q p))
theorem yS8 {k l}(hl:qW l):xX k l=some l:=by
 unfold qW at hl;unfold xX;rw[qG];rfl
theorem Zy {k}(hk:3≤k) l (hl:qW l)(bK:l.length<k)(p:zI):LU k k l 0 p=some (l,(((l.takeWhile (fun q=>wA q p)).length:Nat):Int),p):=by
 unfold qW at hl;have := Gl (L := fun n i => LU k n l i p) (N := l.length) (fun x => wA (l.getD x pd) p) (fun i => (l, (i : Int), p)) (fun n=>by
  show Gn k _ l l.length p=_;unfold Gn;simp) (fun n i hi=>by
  show Gn k _ l i p=_;unfold Gn;obtain⟨x,h1,h2,_⟩:=Zw hk (l.getD i pd) p;simp only[qA,qV,ao,aa hi,h1,ae,h2,qD hi (by grind)];rfl) l.length 0 k (by omega) bK
 have e:((0:Nat):Int)=0:=rfl;rw[e] at this;rw[this,Gm (fun q=>wA q p) l pd l.length 0 (by omega),List.drop_zero,Nat.zero_add]
theorem Zz {k l}(hk:3≤k)(bK:l.length<k)(hl:qW l)(p:zI):
  xY k l p=some (bif (vU l p.1).isSome then(l,6) else bif decide (40≤l.length) then(l,3) else(px l p,0)):=by
 have dL:=hl;unfold qW at hl;unfold xY;rw[Gg bK (by omega)];unfold fk;cases hp:vU l p.1 with
 |some x=>
  rfl
 |none=>
  by_cases h:40≤l.length
  ·grind
  ·rw[ab h,ab (by grind)];simp[Zy hk l dL bK,yS8 dL,QP];rw[Zx _ l p hl (by decide)];rfl
theorem ZA {l x}(h:qW l):qW (yL l x):=by
 unfold qW at*
 have:=(uQ l x).length_le;omega
def LV (l:List zI)(id:Int):List zI:=match vU l id with|some x=>yL l x|none=>l
theorem yNq {l id}(hd:qL l):vU (LV l id) id=none:=by
 cases h:vU (LV l id) id with
 |none=>rfl
 |some y=>
  exfalso;obtain⟨h1,h2⟩:=kW h;unfold LV at h h1 h2;cases hp:vU l id with
  |none=>
   rw[hp] at h;rw[hp] at h;cases h
  |some x=>
   rw[hp] at h1 h2;obtain⟨h3,h4⟩:=kW hp;have hm:=fU (d:=pd) h1;have e:=QK l x pd h3;rw[e] at hd;have LW:=List.pairwise_append.1 hd;have ZB:=List.pairwise_cons.1 LW.2.1;rcases List.mem_append.1 hm with hm|hm
   ·exact LW.2.2 _ hm _ (List.mem_cons_self ..) (h2.trans h4.symm)
   ·exact ZB.1 _ hm (h4.trans h2.symm)
theorem ZC {k l}(hk:3≤k)(bK:l.length<k)(hl:qW l)(hd:qL l)(h40:l.length≤40){id x}(hx:vU l id=some x) c:
  Gp k l id c=some (px (yL l x) ((l.getD x pd).1,(l.getD x pd).2.1,(l.getD x pd).2.2.1,(l.getD x pd).2.2.2.1,c,(l.getD x pd).2.2.2.2.2.1,(l.getD x pd).2.2.2.2.2.2),0):=by
 have du:=kW hx;have hw:=yNq (id:=id) hd;unfold LV at hw;have hlen:=og du.1;unfold Gp;rw[B9 bK hl];unfold iD;rw[hx];simp;rw[Zz hk (by omega) (ZA hl)];grind
theorem vUa {k l}(hk:3≤k)(bK:l.length<k)(hl:qW l)(hd:qL l)(h40:l.length≤40){id x}(hx:vU l id=some x):
  Gq k l id=some (px (yL l x) (l.getD x pd),0):=by
 have du:=kW hx;have hw:=yNq (id:=id) hd;unfold LV at hw;have hlen:=og du.1;unfold Gq;rw[B9 bK hl];unfold iD;rw[hx];simp;rw[Zz hk (by omega) (ZA hl)];grind
theorem vQ7 {k}(hk:3≤k) l (hl:qW l)(bK:l.length<k)(p:zI):LX k k 0 l p=some ((((l.takeWhile (fun q=>iX q p)).length:Nat):Int),l,p):=by
 unfold qW at hl;have := Gl (L := fun n i => LX k n i l p) (N := l.length) (fun x => iX (l.getD x pd) p) (fun i => ((i : Int), l, p)) (fun n=>by
  show Gr k _ l.length l p=_;unfold Gr;simp) (fun n i hi=>by
  show Gr k _ i l p=_;unfold Gr;obtain⟨x,h1,_,h2⟩:=Zw hk (l.getD i pd) p;simp only[qA,qV,ao,aa hi,h1,ae,h2,qD hi (by grind)];rfl) l.length 0 k (by omega) bK
 have e:((0:Nat):Int)=0:=rfl;rw[e] at this;rw[this,Gm (fun q=>iX q p) l pd l.length 0 (by omega),List.drop_zero,Nat.zero_add]
theorem vOg {k l}(hk:3≤k)(bK:l.length<k)(hl:qW l){id x}(hx:vU l id=some x):
  Gs k l id=some (LS (yL l x) (l.getD x pd),0):=by
 have dL:=hl;unfold qW at hl;have du:=kW hx;have hlen:=og du.1;have e1:decide ((x:Int)<0)=false:=by simp
 unfold Gs ZD;rw[Gg bK (by omega)];unfold fk;rw[hx];simp only[ae,e1,ak,yS8 dL,qD du.1 (by grind),yL7 k du.1 dL,qA,aa du.1,ai];rw[vQ7 hk (yL l x) (ZA dL) (by omega)];simp[QP];rw[Zx _ (yL l x) _ (by omega) (by decide)];rfl
def idx (l:AC)(id:Int):Nat:=(l.takeWhile (fun x=>decide (x<id))).length
theorem ZE {x}(h0:0≤x)(h1:x<9223372036854775808):zA (shr .u64 (IntKind.wrap .u64 (zA x)) 1)=x/2:=by
 have e1:zA x=x:=zQ (by omega) h1;have e2:IntKind.wrap .u64 x=x:=by
  unfold IntKind.wrap;simp[IntKind.bits];omega
 rw[e1,e2];have e3:shr .u64 x 1=x/2:=by
  have:(2:Int)^(min (1:Int).toNat (IntKind.bits .u64))=2:=by decide
  grind
 rw[e3];exact zQ
theorem ZF k a b:QQ k a b=some (decide (a<b)):=by
 unfold QQ QR;simp
theorem ZH {k l id}(hl:l.length≤9999){c:Nat}(hc:c≤l.length)(h1:∀x,x<c→l.getD x 0<id)(h2:∀x,c≤x→x<l.length→id≤l.getD x 0) s6:
  ∀n i j,i≤c→c≤j→j≤l.length→j-i<n→LY k n l id s6 i j=some (l,id,s6,(c:Int))
 |n+1,i,j,hi,hj,sn,hn=>by
  show QS k (LY k n) l id s6 i j=_;unfold QS;rw[qV];by_cases mT:i<j
  ·have hh:zA (shr .u64 (IntKind.wrap .u64 (zA ((i:Int)+(j:Int)))) 1)=(((i+j)/2:Nat):Int):=by
    rw[ZE (by omega) (by omega)];omega
   have hm:(i+j)/2<l.length:=by omega
   rw[aa mT,ai,hh,qA,aa hm,ai,ZF];simp only[ae,ao];by_cases bd:(i+j)/2<c
   ·rw[aa (h1 _ bd),ai,qD hm (by omega)];exact ZH hl hc h1 h2 s6 n _ j (by omega) hj sn (by omega)
   ·rw[ab (by grind),ak];exact ZH hl hc h1 h2 s6 n i _ hi (by omega) (by omega) (by omega)
  grind
theorem ZI {k l id}(bK:l.length<k)(hl:l.length≤9999){c:Nat}(hc:c≤l.length)(h1:∀x,x<c→l.getD x 0<id)(h2:∀x,c≤x→x<l.length→id≤l.getD x 0):
  Gt k l id=some ((c:Int),decide (c<l.length)&&decide (l.getD c 0=id)):=by
 unfold Gt;have:=ZH (k:=k) hl hc h1 h2 (l.length:Int) k 0 l.length (by omega) hc (by simp) (by omega);rw[show((0:Nat):Int)=0 from rfl] at this;rw[this];simp only[ae,qA,ao];by_cases h:c<l.length
 ·simp only[aa h];by_cases h3:l.getD c 0=id
  ·simp_all
  ·rw[ab h3];unfold QT;simp
 grind
def qt (l:AC):Prop:=List.Pairwise (fun a b=>a<b) l
theorem yHo {l id}:∀x,x<idx l id→l.getD x 0<id:=by
 intro x hx;unfold idx at hx;have h:=oh (fun x=>decide (x<id)) l;have e:l.getD x 0=(l.takeWhile (fun x=>decide (x<id))).getD x 0:=by
  grind
 have hm:=fU (d:=(0:Int)) hx;have:=List.all_eq_true.1 (List.all_takeWhile (p:=fun x=>decide (x<id)) (l:=l)) _ hm;simp_all
theorem vCt {l}(ha:qt l){id}:∀x,idx l id≤x→x<l.length→id≤l.getD x 0:=by
 intro x hx hl;have hi:idx l id<l.length:=by omega
 have h:=oh (fun x=>decide (x<id)) l;have h0:¬l.getD (idx l id) 0<id:=by
  have hd:l.drop (idx l id)=l[idx l id]::l.drop (idx l id+1):=by simp
  have h2:=h.2;unfold idx at hd;rw[h2] at hd;have bx:l.dropWhile (fun x=>decide (x<id))≠[]:=by rw[hd];simp
  have:=List.head_dropWhile_not (fun x=>decide (x<id)) bx;have e:(l.dropWhile (fun x=>decide (x<id))).head bx=l[idx l id]:=by
   unfold idx;simp_all
  simp_all
 by_cases e:x=idx l id
 ·rw[e];omega
 ·have:=List.pairwise_iff_getElem.1 ha (idx l id) x hi hl (by omega);grind
theorem vPm {l}(ha:qt l) id:(decide (idx l id<l.length)&&decide (l.getD (idx l id) 0=id))=decide (id∈l):=by
 by_cases hm:id∈l
 ·obtain⟨x,hx,e⟩:=List.getElem_of_mem hm;have e':l.getD x 0=id:=by simp_all
  have h1:¬x<idx l id:=fun h=>by have:=yHo x h;omega
  have h3:idx l id<l.length:=by omega
  have h4:¬idx l id<x:=fun h=>by
   have g1:=vCt ha (id:=id) (idx l id) (by simp) h3;have g2:=List.pairwise_iff_getElem.1 ha (idx l id) x h3 hx h;grind
  grind
 grind
def qu (l:AC)(id:Int):AC:=l.takeWhile (fun x=>decide (x<id))++(id::l.dropWhile (fun x=>decide (x<id)))
theorem yYu {k l}(bK:l.length<k)(hl:l.length≤9999)(ha:qt l) id:Gt k l id=some ((idx l id:Int),decide (id∈l)):=by
 rw[ZI bK hl (Ca _ l) yHo (vCt ha)];show some ((idx l id:Int),decide (idx l id<l.length)&&decide (l.getD (idx l id) 0=id))=_;rw[vPm ha]
theorem ZJ {k l}(bK:l.length<k)(hl:l.length≤9999)(ha:qt l) id:QU k l id=some (decide (id∈l)):=by
 unfold QU;rw[yYu bK hl ha];rfl
theorem vXd {k l}(bK:l.length<k)(hl:l.length≤9999)(ha:qt l) id:
  Gu k l id=some (bif decide (id∈l) then(l,6) else bif decide (200≤l.length) then(l,3) else(qu l id,0)):=by
 unfold Gu;rw[yYu bK hl ha];by_cases hm:id∈l
 ·simp_all
 ·rw[ab hm];by_cases h:200≤l.length
  ·grind
  ·rw[ab h,ab (by grind)];have e2:qn k l=some l:=by
    unfold qn;rw[qG];rfl
   simp[e2,ySf];unfold idx;rw[Zx _ l id hl (by decide)];rfl
def kX (l:AC):Int:=zR (fun x=>x) l
def xZ (x:Int):Bool:=decide (-9223372036854775808≤x)&&decide (x<9223372036854775808)
theorem vB4 x:shr .i64 x 63=x/9223372036854775808:=by
 show x.fdiv (2^(min 63 64))=_;grind
theorem qw x:IntKind.wrap .u64 x=x%18446744073709551616:=by
 rfl
theorem ZK {x}(h:0≤x∧x<18446744073709551616):zA x=if x<9223372036854775808 then x else x-18446744073709551616:=by
 unfold zA IntKind.wrap;simp[IntKind.bits,IntKind.signed];grind
theorem ZL (l:AC) i (hi:i<l.length):kX (l.take (i+1))=kX (l.take i)+l.getD i 0:=by
 have:l.take (i+1)=l.take i++[l.getD i 0]:=by
  simp_all
 unfold kX;rw[this,kS];simp[zR]
theorem ZM {k l}(hk:l.length<k)(hl:l.length≤1000000)(hw:∀i,i<l.length→-9223372036854775808≤l.getD i 0∧l.getD i 0<9223372036854775808):
  Gv k l=some (bif xZ (kX l) then(kX l,true) else(0,false)):=by
 obtain ⟨s', g1, g2, g3, g4⟩ := vB (L := fun n i (s : Int × Int) => Gw k n s.1 s.2 l (l.length : Int) i) (N := l.length) (fun s => (s.1, s.2)) (fun i s => (0 ≤ s.2 ∧ s.2 < 18446744073709551616) ∧ s.1 * 18446744073709551616 + s.2 = kX (l.take i) ∧ (-(i : Int) ≤ s.1 ∧ s.1 ≤ i)) (fun n s _=>by
  show Gx k _ s.1 s.2 l l.length l.length=_;unfold Gx;simp only [qV, ab (Nat.lt_irrefl _), ak]) (fun n i s hi hs=>by
  obtain⟨h,lo⟩:=s;obtain⟨⟨h1,h2⟩,h3,h4⟩:=hs;simp only at h1 h2 h3 h4;show∃s',Gx k _ h lo l l.length i=_∧_;unfold Gx BL;have hb:=hw i hi;have hsn:=ZL l i hi;obtain⟨v,hv⟩:∃v,l.getD i 0=v:=⟨_,rfl⟩;rw[hv] at hb hsn;simp only[qV,qA,ao,aa hi,ai,hv,qw,vB4,decide_true,ae,qD hi (show l.length<9223372036854775808 by omega)];obtain⟨u,hu⟩:∃u,v%18446744073709551616=u:=⟨_,rfl⟩;rw[hu];obtain⟨q,hq⟩:∃q,v/9223372036854775808=q:=⟨_,rfl⟩;rw[hq];have sf:u=v-q*18446744073709551616:=by omega
  have py:q=0∨q= -1:=by omega
  obtain⟨a,ha⟩:∃a:Nat,lo.toNat+u.toNat+0=a:=⟨_,rfl⟩;rw[ha];have rZ:(a:Int)=lo+u:=by omega
  obtain⟨c,hc⟩:∃c:Nat,a/18446744073709551616=c:=⟨_,rfl⟩;obtain⟨m,hm⟩:∃c:Nat,a%18446744073709551616=c:=⟨_,rfl⟩;rw[hc,hm];have hcm:a=c*18446744073709551616+m:=by omega
  have ph:m<18446744073709551616:=by omega
  have l9:c≤1:=by omega
  have e1:zA (Int.ofNat c)=(c:Int):=zQ (by show(_:Int)≤((c:Nat):Int);omega) (by show((c:Nat):Int)<_;omega);have e2:zA (q+(c:Int))=q+c:=zQ;have e3:zA (h+(q+(c:Int)))=h+(q+c):=zQ;rw[e1,e2,e3];refine⟨(h+(q+c),(m:Int)),rfl,by grind,?_,?_⟩
  ·rw[hsn];show(h+(q+c))*18446744073709551616+(m:Int)=_;omega
  ·show-((i+1:Nat):Int)≤h+(q+c)∧h+(q+c)≤((i+1:Nat):Int);omega) (s:=(0,0)) hk ⟨⟨by show(0:Int)≤0;omega,by show(0:Int)<_;omega⟩,rfl,by show-((0:Nat):Int)≤0;omega,by show(0:Int)≤((0:Nat):Int);omega⟩
 have Cb:Gw k k 0 0 l (l.length:Int) 0=some (s'.1,s'.2):=g1;rw[List.take_length] at g3;unfold Gv;rw[Cb];simp only[ae,vB4];rw[ZK g2];by_cases c:xZ (kX l)=true
 ·have c':-9223372036854775808≤kX l∧kX l<9223372036854775808:=by simpa[xZ] using c
  rw[c];by_cases d:s'.2<9223372036854775808
  ·rw[if_pos d,aa (show s'.1=s'.2/9223372036854775808 by omega)];simp only[aB,ak,ai];rw[show s'.2=kX l by omega]
  ·rw[if_neg d,aa (show s'.1=(s'.2-18446744073709551616)/9223372036854775808 by omega)];simp only[aB,ak,ai];rw[show s'.2-18446744073709551616=kX l by omega]
 ·have c':¬(-9223372036854775808≤kX l∧kX l<9223372036854775808):=by simpa[xZ] using c
  rw[Bool.not_eq_true] at c;rw[c];by_cases d:s'.2<9223372036854775808
  ·rw[if_pos d,ab (show¬s'.1=s'.2/9223372036854775808 by omega)];rfl
  ·rw[if_neg d,ab (by grind)];rfl
theorem ZO {x}(h:0≤x):yK .u64 x 4294967295=x%4294967296:=by
 obtain⟨n,rfl⟩:=Int.eq_ofNat_of_zero_le h;unfold yK tL;rw[qw];have e1:(BitVec.ofInt IntKind.u64.bits (n:Int)&&&BitVec.ofInt IntKind.u64.bits 4294967295).toNat=n%4294967296:=by
  rw[BitVec.toNat_and,BitVec.toNat_ofInt,BitVec.toNat_ofInt];have e2:((4294967295:Int)%((2^IntKind.u64.bits:Nat):Int)).toNat=2^32-1:=by decide
  rw[e2,Nat.and_two_pow_sub_one_eq_mod];have e3:((n:Int)%((2^IntKind.u64.bits:Nat):Int)).toNat=n%18446744073709551616:=by
   rfl
  omega
 grind
theorem ZP x:shr .u64 x 32=x/4294967296:=by
 show x.fdiv (2^(min 32 64))=_;grind
theorem vVq {a1 a0 b1 b0:Int}:(a1*4294967296+a0)*(b1*4294967296+b0)=a1*b1*18446744073709551616+(a1*b0+a0*b1)*4294967296+a0*b0:=by
 grind
theorem wF {a b A B:Int}(h0:0≤a)(h1:a≤A)(g0:0≤b)(g1:b≤B):0≤a*b∧a*b≤A*B:=
 ⟨Int.mul_nonneg h0 g0,Int.mul_le_mul h1 g1 g0 (by omega)⟩
theorem vJ5 (k:Nat){x y:Int}(hx:0≤x∧x<18446744073709551616)(hy:0≤y∧y<18446744073709551616):Gy k x y=some (x*y/18446744073709551616,x*y%18446744073709551616):=by
 unfold Gy;simp only[ZP,ZO hx.1,ZO hy.1,qw];obtain⟨a1,h1⟩:∃a,x/4294967296=a:=⟨_,rfl⟩;obtain⟨a0,h0⟩:∃a,x%4294967296=a:=⟨_,rfl⟩;obtain⟨b1,g1⟩:∃a,y/4294967296=a:=⟨_,rfl⟩;obtain⟨b0,g0⟩:∃a,y%4294967296=a:=⟨_,rfl⟩;have hxe:x=a1*4294967296+a0:=by omega
 have hye:y=b1*4294967296+b0:=by omega
 rw[h1,h0,g1,g0];have QV:0≤a1∧a1≤4294967295:=by omega
 have nM:0≤a0∧a0≤4294967295:=by omega
 have j8:0≤b1∧b1≤4294967295:=by omega
 have QW:0≤b0∧b0≤4294967295:=by omega
 have p11:=wF QV.1 QV.2 j8.1 j8.2;have uz:=wF QV.1 QV.2 QW.1 QW.2;have p01:=wF nM.1 nM.2 j8.1 j8.2;have p00:=wF nM.1 nM.2 QW.1 QW.2;have Qr:x*y=a1*b1*18446744073709551616+(a1*b0+a0*b1)*4294967296+a0*b0:=by rw[hxe,hye,vVq]
 rw[Qr];generalize a1*b1=u at*
 generalize a1*b0=v at*
 generalize a0*b1=s at*
 generalize a0*b0=t at*
 have c1:(t%18446744073709551616)=t:=by omega
 have c2:(v%18446744073709551616+t/4294967296)%18446744073709551616=v+t/4294967296:=by omega
 rw[c1,c2];have LZ:yK .u64 (v+t/4294967296) 4294967295=(v+t/4294967296)%4294967296:=ZO (by omega);rw[LZ];refine congrArg some (Prod.ext ?_ ?_)
 ·show _%_=_/_;omega
 ·rfl
theorem vNa k {x}(hx:0≤x∧x<18446744073709551616):Gz k 0 x 10000=some (x/10000,x%10000):=by
 unfold Gz;have e1:decide ((10000:Int)=0)=false:=rfl;have e2:decide ((10000:Int)≤0)=false:=rfl;simp[qw];grind
def uR (price many cut:Int):Int:=price*many*(10000-cut)/10000
theorem yZr {p m c}(hp:0≤p∧p≤1048576)(hm:0≤m∧m≤1099511627776)(hc:0≤c∧c≤10000):0≤uR p m c∧uR p m c≤1152921504606846976:=by
 have h1:=wF hp.1 hp.2 hm.1 hm.2;have h2:=wF h1.1 h1.2 (by grind) (show 10000-c≤10000 by omega);unfold uR;omega
theorem vVo k {p m c}(hp:0≤p∧p≤1048576)(hm:0≤m∧m≤1099511627776)(hc:0≤c∧c≤10000):GA k p m c=some (uR p m c,true):=by
 unfold GA L4;have w1:zA (10000-c)=10000-c:=zQ;have e1:decide (p<0)=false:=ab;have e2:decide (m<0)=false:=ab;have e3:decide (c≥0)=true:=aa;have e4:decide (c≤10000)=true:=aa;have u1:p%18446744073709551616=p:=by omega
 have u2:m%18446744073709551616=m:=by omega
 have u3:(10000-c)%18446744073709551616=10000-c:=by omega
 have h1:=wF hp.1 hp.2 hm.1 hm.2;have hP:p*m/18446744073709551616=0:=by omega
 have hP2:p*m%18446744073709551616=p*m:=by omega
 have t0:Int.tmod 0 10000=0:=by simp
 have t1:Int.tdiv 0 10000=0:=by simp
 rw[e1,e2,e3,e4,ak,ak,ai,ae,aB,ak,qw p,qw m,u1,u2,vJ5 k (by grind) (by grind),ae,hP,hP2];dsimp only;rw[t0,t1,vNa k (by grind),ae];dsimp only;rw[w1,qw (10000-c),u3];unfold uR;obtain⟨l,hl⟩:∃l,10000-c=l:=⟨_,rfl⟩;rw[hl];obtain⟨P,hPe⟩:∃P,p*m=P:=⟨_,rfl⟩;rw[hPe] at h1⊢;have dL:0≤l∧l≤10000:=by omega
 rw[vJ5 k (by grind) (by grind)];have hq:=wF (show 0≤P/10000 by omega) (show P/10000≤115292150460684 by omega) dL.1 dL.2;have hr:=wF (show 0≤P%10000 by omega) (show P%10000≤9999 by omega) dL.1 dL.2;have Cc:P*l=P/10000*l*10000+P%10000*l:=by
  grind
 rw[Cc];generalize P/10000*l=a at*
 generalize P%10000*l=b at*
 have v1:a/18446744073709551616=0:=by omega
 have v2:a%18446744073709551616=a:=by omega
 have v3:b%18446744073709551616=b:=by omega
 have v4:Int.tdiv b 10000=b/10000:=Int.tdiv_eq_ediv_of_nonneg hr.1;have v5:b/10000%18446744073709551616=b/10000:=by omega
 have ha:BL k a (b/10000) 0=some (a+b/10000,0):=by
  have n1:(Int.ofNat ((a.toNat+(b/10000).toNat+0)%18446744073709551616))=a+b/10000:=by rw[Int.ofNat_eq_natCast];omega
  have n2:(Int.ofNat ((a.toNat+(b/10000).toNat+0)/18446744073709551616))=0:=by rw[Int.ofNat_eq_natCast];omega
  unfold BL;rw[aa rfl,ai,n1,n2]
 rw[ae];dsimp only;rw[v1,v2,qw b,v3,v4,qw (b/10000),v5,ha,ae];dsimp only;have z1:IntKind.wrap .u64 0=0:=by rw[qw];omega
 have z2:IntKind.wrap .u64 (0+0)=0:=by rw[qw];omega
 have z5:zA (a+b/10000)=a+b/10000:=zQ;grind
abbrev om:=Int×Int
abbrev uS:om:=(0,0)
def oq (sa:List om)(pr h:AC)(i:Nat):Int:=uR (pr.getD i 0) (h.getD i 0) (sa.getD i uS).2
def gD (sa:List om)(pr h:AC):Int:=qI (oq sa pr h) sa.length
structure ki (sa:List om) (pr h:AC):Prop where
 n3:sa.length≤3
 pl:pr.length=sa.length
 hl:h.length=sa.length
 cut:∀i,i<sa.length→0≤(sa.getD i uS).2∧(sa.getD i uS).2≤10000
 price:∀i,i<sa.length→0≤pr.getD i 0∧pr.getD i 0≤1048576
 hold:∀i,i<sa.length→0≤h.getD i 0∧h.getD i 0≤1099511627776
theorem L5 {sa pr h}(L:ki sa pr h){i}(hi:i<sa.length):0≤oq sa pr h i∧oq sa pr h i≤1152921504606846976:=yZr (L.price i hi) (L.hold i hi) (L.cut i hi)
theorem ZQ g:∀n,kX ((List.range n).map g)=qI g n
 |0=>rfl
 |n+1=>by
  rw[List.range_succ,List.map_append];unfold kX;rw[kS];have:=ZQ g n;unfold kX at this;rw[this];show qI g n+(g n+0)=qI g n+g n;omega
theorem QX {g A}:∀{n},(∀j,j<n→0≤g j∧g j≤A)→0≤qI g n∧qI g n≤n*A
 |0,_=>by simp[qI]
 |n+1,h=>by
  have h1:=QX (n:=n) (fun j hj=>h j (by omega));have h2:=h n (by omega);have h3:((n+1:Nat):Int)*A=n*A+A:=by grind
  show 0≤qI g n+g n∧qI g n+g n≤_;omega
theorem ZR {k:Nat}{sa:List om}{pr h:AC}(L:ki sa pr h)(hk:10≤k):qx k k pr h sa sa.length 0 []=some (.inl ((List.range sa.length).map (oq sa pr h))):=by
 have hn:=L.n3;obtain ⟨s', h1, h2⟩ := vB (L := fun n i (s : AC) => qx k n pr h sa sa.length i s) (N := sa.length) (fun s => .inl s) (fun i s => s = (List.range i).map (oq sa pr h)) (fun n s _=>by
  show sX k _ pr h sa sa.length sa.length s=_;unfold sX;simp only [qV, ab (Nat.lt_irrefl _), ak]) (fun n i s hi hs=>by
  refine⟨s++[oq sa pr h i],?_,?_⟩
  ·show sX k _ pr h sa sa.length i s=_;unfold sX;have dP:s.length≤3:=by rw[hs,List.length_map,List.length_range];omega
   have hw:=vVo k (L.price i hi) (L.hold i hi) (L.cut i hi);simp only[qV,qA,ao,aa hi,aa (show i<pr.length by rw[L.pl];exact hi),aa (show i<h.length by rw[L.hl];exact hi),ai,qD hi (show sa.length<9223372036854775808 by omega)];rw[hw];simp only[ae,aB,ak,qG (show(s.length+1)*8≤140737488355328 by omega) (show s.length+1≤140737488355328 by omega),ai];rfl
  ·rw[hs,List.range_succ,List.map_append];rfl) (s:=[]) (show sa.length<k by omega) rfl
 have fa:qx k k pr h sa sa.length 0 []=_:=h1;rw[fa,h2]
theorem ZS {k sa pr h}(L:ki sa pr h)(hk:10≤k):nk k sa pr h=some (gD sa pr h,true):=by
 have hn:=L.n3;have hb:=QX (g:=oq sa pr h) (n:=sa.length) (fun j hj=>L5 L hj);unfold nk;have e1:decide ((pr.length:Int)=(sa.length:Int))=true:=aa (by rw[L.pl]);have e2:decide ((h.length:Int)=(sa.length:Int))=true:=aa (by rw[L.hl]);simp[e1,e2];rw[ZR L hk];simp;rw [ZM (by grind) (by grind) (fun i hi=>by
  rw[List.length_map,List.length_range] at hi;have:=L5 L hi;grind)]
 rw[ZQ];have e3:xZ (qI (oq sa pr h) sa.length)=true:=by
  unfold xZ;grind
 rw[e3];rfl
theorem GB {sa pr h}(L:ki sa pr h):0≤gD sa pr h:=(QX (g:=oq sa pr h) (n:=sa.length) (fun j hj=>L5 L hj)).1
theorem yPu {k l}(hl:l.length≤9999){i}(h0:0≤i)(h1:i<l.length) v:qy k l i v=some (l.set i.toNat v):=by
 unfold qy;have e2:qn k l=some l:=by
  unfold qn;rw[qG];rfl
 simp[e2,aa (show i≥0 by omega),aa h1,ai,jB h0 h1]
theorem QY {a b m p l r}(hb:wW a b m p)(h:sS a b m p l r):
  qI (fun i=>(r.1.getD i ad).1) a.length=qI (fun i=>(a.getD i ad).1) a.length∧wW r.1 r.2.1 r.2.2.1 r.2.2.2.1∧(r.2.2.2.2=0∨(r.1=a∧r.2.1=b∧r.2.2.1=m∧r.2.2.2.1=p)):=by
 by_cases c:wD a.length l
 ·obtain⟨a',p',x,e⟩:=h.1 c;cases hi:kV a' b m p' with
  |false=>
   simp_all
  |true=>
   rw[hi] at e;subst e;refine⟨?_,Ft.1 hi,.inl rfl⟩;have e1:qI (fun i=>(a'.getD i ad).1) a.length=qI (fun i=>(a.getD i ad).1+zR (gB i) l) a.length:=sN fun j hj=>by rw[x.acct j hj]
   show qI (fun i=>(a'.getD i ad).1) a.length=_;rw[e1,EU,PU];have e2:zR (fun p=>qI (fun j=>gB j p) a.length) l=zR (fun _=>(0:Int)) l:=PT fun p hp=>by
    obtain⟨f0,f1,t0,t1,ne,a1,a2,c1,c3⟩:=c.1 p hp;obtain⟨f,hf⟩:∃f:Nat,p.2.1=f:=⟨p.2.1.toNat,by omega⟩;obtain⟨t,ht⟩:∃t:Nat,p.2.2.1=t:=⟨p.2.2.1.toNat,by omega⟩;have g1:∀j,gB j p=(if j=t then p.2.2.2.1 else 0)+(if j=f then-p.2.2.2.1 else 0):=by
     unfold gB;omega
    rw[sN fun j _=>g1 j,EU,BO,BO,if_pos (by omega),if_pos (by omega)];omega
   have e3:∀l:List zI,zR (fun _:zI=>(0:Int)) l=0:=by
    intro l
    induction l with
    |nil=>rfl
    |cons p l ih=>show 0+zR _ l=0;omega
   simp_all
 ·have e:=h.2 c;simp_all
abbrev BT:=List yA×EQ×AC×EQ
def qS (B:BT):Prop:=wW B.1 B.2.1 B.2.2.1 B.2.2.2
theorem GC {k}(hk:100<k){B}(h:qS B){l:List zI}(hl:l.length≤80):
  ∃r,qp k B.1 B.2.1 B.2.2.1 B.2.2.2 l=some r∧BZ k B.1 B.2.1 B.2.2.1 B.2.2.2 l=some r∧sS B.1 B.2.1 B.2.2.1 B.2.2.2 l r:=by
 obtain⟨r,h1,h2⟩:=Qs hk h hl;obtain⟨r',h3,h4⟩:=vS2 hk h hl;have:=h2.same h4;simp_all
def ya (B:BT)(l:List zI):Bool:=xV B.1 B.2.1 B.2.2.1 B.2.2.2 l
def iE (k:Nat)(B:BT)(l:List zI):Option BT:=match qp k B.1 B.2.1 B.2.2.1 B.2.2.2 l with
 |some r=>bif decide (r.2.2.2.2=0)&&ya B l then some (r.1,r.2.1,r.2.2.1,r.2.2.2.1) else none
 |none=>none
theorem sY {k}(hk:100<k){B C}(h:qS B){l}(hl:l.length≤80)(hg:iE k B l=some C):qS C∧C.1.length=B.1.length:=by
 obtain⟨r,h1,h2,h3⟩:=GC hk h hl;unfold iE at hg;rw[h1] at hg;simp only at hg;cases hc:decide (r.2.2.2.2=0)&&ya B l with
 |false=>
  simp_all
 |true=>
  rw[hc] at hg;simp  at hg;subst hg;refine⟨(QY h h3).2.1,?_⟩;by_cases c:wD B.1.length l
  ·obtain⟨a',p',x,e⟩:=h3.1 c;cases hi:kV a' B.2.1 B.2.2.1 p' with
   |false=>simp_all
   |true=>rw[hi] at e;subst e;exact x.al
  ·rw[h3.2 c]
def fW (k:Nat)(B:BT):List zI→Option (zI×BT)
 |[]=>none
 |p::l=>match iE k B [p] with
  |some C=>some (p,C)
  |none=>fW k B l
theorem Cd {k B C p}:∀{l},fW k B l=some (p,C)→p∈l∧iE k B [p]=some C
 |q::l,h=>by
  unfold fW at h;cases hg:iE k B [q] with
  |some D=>
   simp_all
  |none=>
   rw[hg] at h;have:=Cd h;simp_all
theorem yWy k B {m:List zI}{i}(hi:i<m.length):fW k B (m.drop i)=match iE k B [m.getD i pd] with
  |some C=>some (m.getD i pd,C)
  |none=>fW k B (m.drop (i+1)):=by
 rw[List.drop_eq_getElem_cons hi];have e:m.getD i pd=m[i]:=by simp_all
 rw[e];rfl
theorem QZ l t:(wC l t).length≤l.length:=Nat.le_trans (List.length_filter_le _ _) (by grind)
theorem vT8 m i (hi:i<m.length):qO m (0+i) (i+1-i)=[m.getD i pd]:=by
 unfold qO;rw[Nat.zero_add,show i+1-i=1 by omega,List.drop_eq_getElem_cons hi,bX,List.getElem?_eq_getElem hi];rfl
def fl (l:List zI)(id:Int):List zI:=(iD l id).1
theorem uT {l p}(h:p∈l):(fl l p.1).length+1=l.length∧List.Sublist (fl l p.1) l:=by
 obtain⟨x,hx⟩:=QL h;unfold fl iD;rw[hx];have:=(kW hx).1;refine⟨?_,uQ l x⟩;rw[og this];omega
theorem GD {l t p}(h:p∈wC l t):p∈l:=(List.mem_filter.1 (List.mem_filter.1 h).1).1
inductive gZ (k:Nat) (t:Int):BT→List zI→List zI→BT→List zI→Prop
 |stop {B:BT} {l:List zI} (h:fW k B (wC l t)=none):gZ k t B l [] B l
 |step {B C D:BT} {l m done:List zI} {p:zI} (h:fW k B (wC l t)=some (p,C)) (h':gZ k t C (fl l p.1) done D m):gZ k t B l (p::done) D m
theorem ySg {k}(hk:100<k){B}(h:qS B){l:List zI}(hl:l.length≤80):B5 k B.1 B.2.1 B.2.2.1 B.2.2.2 l=some (ya B l):=Zb hk h hl
theorem vDb {k}(hk:100<k){B}(h:qS B)(m:List zI)(hm:m.length≤9999):∀c i n,i+c=m.length→c<n→
  L6 k n m.length i B.1 B.2.1 B.2.2.1 B.2.2.2 0 0 0 0 0 0 0 m = some (match fW k B (m.drop i) with
   |some (p,C)=>.inr (true,p.1,p.2.1,p.2.2.1,p.2.2.2.1,p.2.2.2.2.1,p.2.2.2.2.2.1,p.2.2.2.2.2.2,C.1,C.2.1,C.2.2.1,C.2.2.2)
   |none=>.inl (B.1,B.2.1,B.2.2.1,B.2.2.2,0,0,0,0,0,0,0))
 |0,i,n,e,hn=>by
  obtain⟨n,rfl⟩:∃x,n=x+1:=⟨n-1,by omega⟩;have:i=m.length:=by omega
  subst this;show GG k _ m.length m.length B.1 B.2.1 B.2.2.1 B.2.2.2 0 0 0 0 0 0 0 m=_;unfold GG;simp;rfl
 |c+1,i,n,e,hn=>by
  obtain⟨n,rfl⟩:∃x,n=x+1:=⟨n-1,by omega⟩;have hi:i<m.length:=by omega
  have ih:=vDb hk h m hm c (i+1) n (by omega) (by omega);show GG k _ m.length i B.1 B.2.1 B.2.2.1 B.2.2.2 0 0 0 0 0 0 0 m=_;unfold GG;obtain⟨r,h1,h2,h3⟩:=GC hk h (l:=[m.getD i pd]) (by simp);have hf:=ySg hk h (l:=[m.getD i pd]) (by simp);simp[qA,qD hi (by grind)];rw[yWy k B hi];unfold iE;grind
def yGk (B:BT)(x:Option (zI×BT)):Int×Int×Int×Int×Int×Int×Int×(List (Int×Int×Int))×EQ×AC×EQ×Bool:=match x with
 |some (p,C)=>(p.1,p.2.1,p.2.2.1,p.2.2.2.1,p.2.2.2.2.1,p.2.2.2.2.2.1,p.2.2.2.2.2.2,C.1,C.2.1,C.2.2.1,C.2.2.2,true)
 |none=>(0,0,0,0,0,0,0,B.1,B.2.1,B.2.2.1,B.2.2.2,false)
theorem vOf {k}(hk:100<k){B}(h:qS B){l}(bK:l.length<k)(hl:qW l)(hd:qL l) t:Q0 k B.1 B.2.1 B.2.2.1 B.2.2.2 l t=some (yGk B (fW k B (wC l t))):=by
 unfold Q0;rw[vHx bK hl hd];have GH:=QZ l t;unfold qW at hl;have:=vDb hk h (wC l t) (by omega) (wC l t).length 0 k (by omega) (by omega);have e:((0:Nat):Int)=0:=rfl;rw[e,List.drop_zero] at this;simp;rw[this];cases fW k B (wC l t) with
 |none=>rfl
 |some x=>rfl
theorem yQr {k}(hk:100<k) t:∀n B (l r:List zI),qS B→qL l→l.length≤100→l.length<n→r.length+l.length≤9999→
  ∃(C:BT) (m done:List zI),L7 k n t l B.1 B.2.1 B.2.2.1 B.2.2.2 r=some (m,C.1,C.2.1,C.2.2.1,C.2.2.2,r++done)∧gZ k t B l done C m∧qS C∧C.1.length=B.1.length∧List.Sublist m l
 |n+1,B,l,r,hb,hd,hl,hn,hr=>by
  have h1:=vOf hk hb (l:=l) (by omega) (by show l.length≤9999;omega) hd t;cases hx:fW k B (wC l t) with
  |none=>
   rw[hx] at h1;refine⟨B,l,[],?_,.stop hx,hb,rfl,by simp⟩;show GI k _ t l B.1 B.2.1 B.2.2.1 B.2.2.2 r=_;unfold GI;rw[h1];simp only[ae,yGk,bN,ai,List.append_nil]
  |some x=>
   obtain⟨p,C⟩:=x;rw[hx] at h1;obtain⟨hp,hg⟩:=Cd hx;have El:=GD hp;obtain⟨tX,nO⟩:=uT El;obtain⟨nX,dq⟩:=sY hk hb (by simp) hg;obtain⟨D,m,done,g1,g3,g4,g5,g6⟩:=yQr hk t n C (fl l p.1) (r++[p]) nX (List.Pairwise.sublist nO hd) (by omega) (by omega) (by grind);refine⟨D,m,p::done,?_,.step hx g3,g4,by grind,g6.trans nO⟩;show GI k _ t l B.1 B.2.1 B.2.2.1 B.2.2.2 r=_;unfold GI;rw[h1];simp[B9 (show l.length<k by omega) (show qW l by show l.length≤9999;omega),oe (show r.length≤9999 by omega)];rw[List.append_cons r p done,←g1];rfl
theorem ZT {k}(hk:200≤k){B}(hb:qS B){l}(hd:qL l)(hl:l.length≤100) t:
  ∃(C:BT) (m done:List zI),Q1 k B.1 B.2.1 B.2.2.1 B.2.2.2 l t=some (C.1,C.2.1,C.2.2.1,C.2.2.2,m,done)∧gZ k t B l done C m∧qS C∧C.1.length=B.1.length∧List.Sublist m l:=by
 obtain⟨C,m,done,h1,h3⟩:=yQr (show 100<k by omega) t k B l [] hb hd hl (by omega) (by grind);refine⟨C,m,done,?_,h3⟩;unfold Q1;simp_all
def qz (p q:zI):Bool:=decide (q.2.1=p.2.2.1)&&(decide (q.2.2.1=p.2.1)&& !decide (p.2.1≥q.2.1))
def pz (k:Nat)(B:BT)(p:zI):List zI→Option (zI×BT)
 |[]=>none
 |q::l=>match(bif qz p q then iE k B [p,q] else none) with
  |some C=>some (q,C)
  |none=>pz k B p l
def sZ (k:Nat)(B:BT)(m:List zI):List zI→Option (zI×zI×BT)
 |[]=>none
 |p::l=>match pz k B p m with
  |some (q,C)=>some (p,q,C)
  |none=>sZ k B m l
theorem ZU {k B C p q}:∀{l},pz k B p l=some (q,C)→q∈l∧qz p q=true∧iE k B [p,q]=some C
 |r::l,h=>by
  unfold pz at h;cases hd:qz p r with
  |false=>
   rw[hd] at h;have:=ZU (l:=l) h;simp_all
  |true=>
   rw[hd] at h;cases hg:iE k B [p,r] with
   |some D=>
    simp_all
   |none=>
    rw[hg] at h;have:=ZU (l:=l) h;simp_all
theorem Q2 {k B C p q m}:∀{l},sZ k B m l=some (p,q,C)→p∈l∧q∈m∧qz p q=true∧iE k B [p,q]=some C
 |r::l,h=>by
  unfold sZ at h;cases hq:pz k B r m with
  |some x=>
   rw[hq] at h;cases h;exact⟨by simp,ZU hq⟩
  |none=>
   rw[hq] at h;have:=Q2 (l:=l) h;simp_all
theorem yN1 {α:Type}{l:List α}{i} h d:l.getD i d=l[i]:=by
 simp_all
theorem yQt k B p {m:List zI}{i}(hi:i<m.length):pz k B p (m.drop i)=match(bif qz p (m.getD i pd) then iE k B [p,m.getD i pd] else none) with
  |some C=>some (m.getD i pd,C)
  |none=>pz k B p (m.drop (i+1)):=by
 rw[List.drop_eq_getElem_cons hi,yN1 hi];rfl
theorem yRk k B r {m:List zI}{i}(hi:i<m.length):sZ k B r (m.drop i)=match pz k B (m.getD i pd) r with
  |some (q,C)=>some (m.getD i pd,q,C)
  |none=>sZ k B r (m.drop (i+1)):=by
 rw[List.drop_eq_getElem_cons hi,yN1 hi];rfl
def fP (k:Nat)(B:BT)(l:List zI)(t:Int):Option (zI×zI×BT):=sZ k B (wC l t) (wC l t)
theorem ZV {l x q}(hx:x<l.length)(h:q∈l)(bx:q≠l.getD x pd):q∈yL l x:=by
 unfold yL;have e:=QK l x pd hx;grind
theorem qL.eq_of {l}(h:qL l){p q}(hp:p∈l)(hq:q∈l)(e:p.1=q.1):p=q:=by
 obtain⟨i,hi,ei⟩:=List.getElem_of_mem hp;obtain⟨j,hj,ej⟩:=List.getElem_of_mem hq;have hl:=List.pairwise_iff_getElem.1 h;grind
theorem ZW {l p q}(hp:p∈l)(hq:q∈l)(bx:q.1≠p.1):q∈fl l p.1:=by
 obtain⟨x,hx⟩:=QL hp;unfold fl iD;rw[hx];have:=kW hx;exact ZV this.1 hq (by grind)
def Ce (l:List zI)(p q:zI):List zI:=fl (fl l p.1) q.1
theorem GJ {k B C l t p q}(h:fP k B l t=some (p,q,C)):p∈l∧q∈l∧qz p q=true∧iE k B [p,q]=some C:=by
 obtain⟨h1,h2,h3⟩:=Q2 h;exact⟨GD h1,GD h2,h3⟩
theorem vFa {l}(hd:qL l){p q}(hp:p∈l)(hq:q∈l)(h:qz p q=true):q.1≠p.1:=by
 intro e;have:=hd.eq_of hq hp e;subst this;unfold qz at h;simp at h
theorem GK {l}(hd:qL l){p q}(hp:p∈l)(hq:q∈l)(h:qz p q=true):(Ce l p q).length+2=l.length∧List.Sublist (Ce l p q) l:=by
 obtain⟨h1,h2⟩:=uT hp;obtain⟨h3,h4⟩:=uT (ZW hp hq (vFa hd hp hq h));unfold Ce;exact⟨by omega,h4.trans h2⟩
inductive eg (k:Nat) (t:Int):BT→List zI→List zI→BT→List zI→Prop
 |stop {B:BT} {l:List zI} (h:fP k B l t=none):eg k t B l [] B l
 |step {B C D:BT} {l m done:List zI} {p q:zI} (h:fP k B l t=some (p,q,C)) (h':eg k t C (Ce l p q) done D m):eg k t B l (p::q::done) D m
theorem eg.length {k t B C l done m}(h:eg k t B l done C m)(hd:qL l):done.length+m.length=l.length∧done.length%2=0:=by
 induction h with
 |stop _=>simp
 |step h _ ih=>
  obtain⟨hp,hq,pA,_⟩:=GJ h;obtain⟨h1,h2⟩:=GK hd hp hq pA;have:=ih (List.Pairwise.sublist h2 hd);grind
theorem eg.sub {k t B C l done m}(h:eg k t B l done C m)(hd:qL l):List.Sublist m l:=by
 induction h with
 |stop _=>simp
 |step h _ ih=>
  obtain⟨hp,hq,pA,_⟩:=GJ h;obtain⟨h1,h2⟩:=GK hd hp hq pA;exact(ih (List.Pairwise.sublist h2 hd)).trans h2
theorem yMi {k}(hk:100<k){B}(h:qS B)(m:List zI)(hm:m.length≤9999) p cQ cM:∀c i n,i+c=m.length→c<n→
  L8 k n cQ cM m.length i B.1 B.2.1 B.2.2.1 B.2.2.2 0 0 0 0 0 0 0 0 0 0 0 0 0 0 m p.1 p.2.1 p.2.2.1 p.2.2.2.1 p.2.2.2.2.1 p.2.2.2.2.2.1 p.2.2.2.2.2.2 = some (match pz k B p (m.drop i) with
   |some (q,C)=>.inr (true,p.1,p.2.1,p.2.2.1,p.2.2.2.1,p.2.2.2.2.1,p.2.2.2.2.2.1,p.2.2.2.2.2.2,q.1,q.2.1,q.2.2.1,q.2.2.2.1,q.2.2.2.2.1,q.2.2.2.2.2.1,q.2.2.2.2.2.2,C.1,C.2.1,C.2.2.1,C.2.2.2)
   |none=>.inl (cQ,cM,B.1,B.2.1,B.2.2.1,B.2.2.2,0,0,0,0,0,0,0,0,0,0,0,0,0,0,m))
 |0,i,n,e,hn=>by
  obtain⟨n,rfl⟩:∃x,n=x+1:=⟨n-1,by omega⟩;have:i=m.length:=by omega
  subst this;show GL k _ cQ cM m.length m.length B.1 B.2.1 B.2.2.1 B.2.2.2 0 0 0 0 0 0 0 0 0 0 0 0 0 0 m p.1 p.2.1 p.2.2.1 p.2.2.2.1 p.2.2.2.2.1 p.2.2.2.2.2.1 p.2.2.2.2.2.2=_;unfold GL;simp;rfl
 |c+1,i,n,e,hn=>by
  obtain⟨n,rfl⟩:∃x,n=x+1:=⟨n-1,by omega⟩;have hi:i<m.length:=by omega
  have ih:=yMi hk h m hm p cQ cM c (i+1) n (by omega) (by omega);show GL k _ cQ cM m.length i B.1 B.2.1 B.2.2.1 B.2.2.2 0 0 0 0 0 0 0 0 0 0 0 0 0 0 m p.1 p.2.1 p.2.2.1 p.2.2.2.1 p.2.2.2.2.1 p.2.2.2.2.2.1 p.2.2.2.2.2.2=_;unfold GL;obtain⟨r,h1,h2,h3⟩:=GC hk h (l:=[p,m.getD i pd]) (by simp);have hf:=ySg hk h (l:=[p,m.getD i pd]) (by simp);have fa:qp k B.1 B.2.1 B.2.2.1 B.2.2.2 [(p.1,p.2.1,p.2.2.1,p.2.2.2.1,p.2.2.2.2.1,p.2.2.2.2.2.1,p.2.2.2.2.2.2),m.getD i (0,(0,(0,(0,(0,(0,0))))))]=some r:=h1;have ek:B5 k B.1 B.2.1 B.2.2.1 B.2.2.2 [(p.1,p.2.1,p.2.2.1,p.2.2.2.1,p.2.2.2.2.1,p.2.2.2.2.2.1,p.2.2.2.2.2.2),m.getD i (0,(0,(0,(0,(0,(0,0))))))]=some (ya B [p,m.getD i pd]):=hf;simp only[qA,qD hi (by grind),qV,ao,aa hi];rw[yQt k B p hi];unfold qz;cases decide ((m.getD i pd).2.1=p.2.2.1) with
  |false=>exact ih
  |true=>
   cases decide ((m.getD i pd).2.2.1=p.2.1) with
   |false=>exact ih
   |true=>
    cases decide (p.2.1≥(m.getD i pd).2.1) with
    |true=>exact ih
    |false=>
     unfold iE;grind
theorem yXr {k}(hk:100<k){B}(h:qS B)(m:List zI)(hm:m.length≤9999)(L9:m.length<k):∀c i n,i+c=m.length→c<n→
  Ma k n m.length i B.1 B.2.1 B.2.2.1 B.2.2.2 0 0 0 0 0 0 0 0 0 0 0 0 0 0 m = some (match sZ k B m (m.drop i) with
   |some (p,q,C)=>.inr (true,p.1,p.2.1,p.2.2.1,p.2.2.2.1,p.2.2.2.2.1,p.2.2.2.2.2.1,p.2.2.2.2.2.2,q.1,q.2.1,q.2.2.1,q.2.2.2.1,q.2.2.2.2.1,q.2.2.2.2.2.1,q.2.2.2.2.2.2,C.1,C.2.1,C.2.2.1,C.2.2.2)
   |none=>.inl (0,0,0,0,0,0,0,0,0,0,0,0,0,0))
 |0,i,n,e,hn=>by
  obtain⟨n,rfl⟩:∃x,n=x+1:=⟨n-1,by omega⟩;have:i=m.length:=by omega
  subst this;show GM k _ m.length m.length B.1 B.2.1 B.2.2.1 B.2.2.2 0 0 0 0 0 0 0 0 0 0 0 0 0 0 m=_;unfold GM;simp;rfl
 |c+1,i,n,e,hn=>by
  obtain⟨n,rfl⟩:∃x,n=x+1:=⟨n-1,by omega⟩;have hi:i<m.length:=by omega
  have ih:=yXr hk h m hm L9 c (i+1) n (by omega) (by omega);show GM k _ m.length i B.1 B.2.1 B.2.2.1 B.2.2.2 0 0 0 0 0 0 0 0 0 0 0 0 0 0 m=_;unfold GM;have gx:=yMi hk h m hm (m.getD i pd) m.length i m.length 0 k (by omega) L9;have e0:((0:Nat):Int)=0:=rfl;rw[e0,List.drop_zero] at gx;simp only[qA,qV,ao,aa hi];rw[gx];rw[yRk k B m hi];cases pz k B (m.getD i (0,(0,(0,(0,(0,(0,0))))))) m with
  |none=>
   simp[qD hi (by grind)];exact ih
  |some x=>rfl
def ZX (x:Option (zI×zI×BT)):Int×Int×Int×Int×Int×Int×Int×Int×Int×Int×Int×Int×Int×Int×(List (Int×Int×Int))×EQ×AC×EQ×Bool:=match x with
 |some (p,q,C)=>(p.1,p.2.1,p.2.2.1,p.2.2.2.1,p.2.2.2.2.1,p.2.2.2.2.2.1,p.2.2.2.2.2.2,q.1,q.2.1,q.2.2.1,q.2.2.2.1,q.2.2.2.2.1,q.2.2.2.2.2.1,q.2.2.2.2.2.2,C.1,C.2.1,C.2.2.1,C.2.2.2,true)
 |none=>(0,0,0,0,0,0,0,0,0,0,0,0,0,0,[],[],[],[],false)
theorem ZY {k}(hk:100<k){B}(h:qS B){l}(bK:l.length<k)(hl:qW l)(hd:qL l) t:Q3 k B.1 B.2.1 B.2.2.1 B.2.2.2 l t=some (ZX (fP k B l t)):=by
 unfold Q3 fP;rw[vHx bK hl hd];have GH:=QZ l t;unfold qW at hl;have:=yXr hk h (wC l t) (by omega) (by omega) (wC l t).length 0 k (by omega) (by omega);have e:((0:Nat):Int)=0:=rfl;rw[e,List.drop_zero] at this;simp;rw[this];cases sZ k B (wC l t) (wC l t) with
 |none=>rfl
 |some x=>rfl
theorem ZZ {k}(hk:3≤k) t (l:List zI)(hl:l.length≤9999)(uy:l.length<k)(C:BT)(r:List zI)(hr:r.length≤900)(p q:zI):
  yc k k t l 2 0 C.1 C.2.1 C.2.2.1 C.2.2.2 r [p,q]=some (t,Ce l p q,C.1,C.2.1,C.2.2.1,C.2.2.2,r++[p,q]):=by
 obtain⟨n,rfl⟩:∃n,k=n+3:=⟨k-3,by omega⟩;have h1:=B9 uy (show qW l from hl) p.1;have tX:(fl l p.1).length≤l.length:=by
  unfold fl iD;cases hp:vU l p.1 with
  |none=>simp
  |some x=>exact List.Sublist.length_le (uQ l x)
 have h2:=B9 (k:=n+3) (l:=fl l p.1) (by omega) (show(fl l p.1).length≤9999 by omega) q.1;have e1:zO (r.length+1) 56=true:=oe (by omega);have e2:zO ((r++[p]).length+1) 56=true:=oe (by grind);show yd (n+3) (yc (n+3) (n+2)) t l 2 0 C.1 C.2.1 C.2.2.1 C.2.2.2 r [p,q]=_;unfold yd;have g0:[p,q].getD (Int.toNat 0) (0,(0,(0,(0,(0,(0,0))))))=p:=rfl;have b0:zB 0 [p,q].length=true:=rfl;have d0:decide ((0:Int)<2)=true:=rfl;have w0:zA (0+1)=1:=by decide
 rw[d0,b0,g0,h1];simp[e1];show yd (n+3) (yc (n+3) (n+1)) t (fl l p.1) 2 1 C.1 C.2.1 C.2.2.1 C.2.2.2 (r++[p]) [p,q]=_;unfold yd;have g1:[p,q].getD (Int.toNat 1) (0,(0,(0,(0,(0,(0,0))))))=q:=rfl;have b1:zB 1 [p,q].length=true:=rfl;have d1:decide ((1:Int)<2)=true:=rfl;have w1:zA (1+1)=2:=by decide
 rw[d1,b1,g1,h2];simp only[e2];show yd (n+3) (yc (n+3) n) t (Ce l p q) 2 2 C.1 C.2.1 C.2.2.1 C.2.2.2 (r++[p]++[q]) [p,q]=_;unfold yd;simp
theorem vFv {k}(hk:100<k) t:∀n B (l r:List zI),qS B→qL l→l.length≤100→l.length<n→r.length+l.length≤900→
  ∃(C:BT) (m done:List zI),Mb k n t l B.1 B.2.1 B.2.2.1 B.2.2.2 r=some (m,C.1,C.2.1,C.2.2.1,C.2.2.2,r++done)∧eg k t B l done C m∧qS C∧C.1.length=B.1.length∧List.Sublist m l
 |n+1,B,l,r,hb,hd,hl,hn,hr=>by
  have h1:=ZY hk hb (l:=l) (by omega) (by show l.length≤9999;omega) hd t;cases hx:fP k B l t with
  |none=>
   rw[hx] at h1;refine⟨B,l,[],?_,.stop hx,hb,rfl,by simp⟩;show GN k _ t l B.1 B.2.1 B.2.2.1 B.2.2.2 r=_;unfold GN;rw[h1];simp only[ae,ZX,bN,ai,List.append_nil]
  |some x=>
   obtain⟨p,q,C⟩:=x;obtain⟨hp,hq,pA,hg⟩:=GJ hx;obtain⟨tX,nO⟩:=GK hd hp hq pA;obtain⟨nX,dq⟩:=sY hk hb (by simp) hg;obtain⟨D,m,done,g1,g3,g4,g5,g6⟩:=vFv hk t n C (Ce l p q) (r++[p,q]) nX (List.Pairwise.sublist nO hd) (by omega) (by omega) (by grind);refine⟨D,m,p::q::done,?_,.step hx g3,g4,by grind,g6.trans nO⟩;show GN k _ t l B.1 B.2.1 B.2.2.1 B.2.2.2 r=_;unfold GN;rw[h1];have hL:=ZZ (k:=k) (by omega) t l (by omega) (by omega) C r (by omega) p q;simp only[ZX,ak];simp_all
theorem Z0 {k}(hk:200≤k){B}(hb:qS B){l}(hd:qL l)(hl:l.length≤100) t:
  ∃(C:BT) (m done:List zI),Q4 k B.1 B.2.1 B.2.2.1 B.2.2.2 l t=some (C.1,C.2.1,C.2.2.1,C.2.2.2,m,done)∧eg k t B l done C m∧qS C∧C.1.length=B.1.length∧List.Sublist m l:=by
 obtain⟨C,m,done,h1,h3⟩:=vFv (show 100<k by omega) t k B l [] hb hd hl (by omega) (by grind);refine⟨C,m,done,?_,h3⟩;unfold Q4;simp_all
def eu (l:List zI)(f:Int):Nat:=(l.filter (jA f)).length
def ta (l:List zI)(many:AC)(i:Nat):Bool:=
 (decide ((l.getD i pd).2.1≥0)&&decide ((l.getD i pd).2.1<(many.length:Int)))&&decide (((eu (l.take i) (l.getD i pd).2.1:Nat):Int)<many.getD (l.getD i pd).2.1.toNat 0)
def np (l:List zI)(many:AC):Nat→List zI
 |0=>[]
 |i+1=>np l many i++(bif ta l many i then[l.getD i pd] else[])
def vJ (l:List zI)(many:AC):List zI:=np l many l.length
theorem yQ7 l many:∀N,N≤l.length→List.Sublist (np l many N) (l.take N)
 |0,_=>by simp[np]
 |N+1,h=>by
  rw[←fF l N pd h];apply List.Sublist.append (yQ7 l many N (by omega));grind
theorem ye l many:List.Sublist (vJ l many) l:=by
 have:=yQ7 l many l.length (by simp)
 rwa [List.take_length] at this
def uU (v w:AC):Prop:=v.length=w.length∧∀i,i<w.length→v.getD i 0≤w.getD i 0
def eP (B:BT)(l:List zI):AC:=uO B.1 B.2.1 B.2.2.1 B.2.2.2 l
def fm (s:AC)(m:AC):AC:=s.foldl (fun m i=>m.set i.toNat (m.getD i.toNat 0-1)) m
theorem uV:∀s m,(fm s m).length=m.length
 |[],_=>rfl
 |i::s,m=>by
  show(fm s (m.set i.toNat (m.getD i.toNat 0-1))).length=_;rw[uV s,List.length_set]
theorem yW9:∀(s:List Nat) m,s.Nodup→(∀i∈s,i<m.length)→∀j,(fm (s.map fun(x:Nat)=>(x:Int)) m).getD j 0=m.getD j 0-(if j∈s then 1 else 0)
 |[],m,_,_,j=>by simp[fm]
 |i::s,m,hs,hi,j=>by
  show(fm (s.map fun(x:Nat)=>(x:Int)) (m.set ((i:Int)).toNat (m.getD ((i:Int)).toNat 0-1))).getD j 0=_;rw[ao,yW9 s _ (by grind) (by grind),fG];grind
def uW (B:BT)(l:List zI)(i:Nat):Bool:=gY B.1 B.2.1 B.2.2.1 B.2.2.2 l i
theorem yMu B l {m}(hm:m.length=B.1.length) j:(fm (eP B l) m).getD j 0=m.getD j 0-(if j<B.1.length∧uW B l j=true then 1 else 0):=by
 have:=yW9 ((List.range B.1.length).filter fun i=>uW B l i) m (List.Nodup.sublist List.filter_sublist (by grind)) (by grind) j;unfold eP uO;rw[show(fun i=>gY B.1 B.2.1 B.2.2.1 B.2.2.2 l i)=fun i=>uW B l i from rfl,this];simp
theorem Z1 {B l}:eP B l=[]↔∀j,j<B.1.length→uW B l j=false:=by
 unfold eP uO;rw[List.map_eq_nil_iff,List.filter_eq_nil_iff];constructor
 ·intro h j hj;have:=h j (by grind)
  simpa[uW] using this
 ·intro h i hi;have:=h i (by grind)
  simpa[uW] using this
theorem vC3 {l many p}:∀{N},p∈np l many N→∃i,i<N∧l.getD i pd=p∧ta l many i=true
 |N+1,h=>by
  unfold np at h;rw[List.mem_append] at h;rcases h with h|h
  ·obtain⟨i,h1,h2⟩:=vC3 h;grind
  grind
theorem vRc {B l}(hl:∀q∈l,yN B.1.length q){m j}(h:uW B (vJ l m) j=true):1≤m.getD j 0:=by
 unfold uW gY at h;rw[aR,Bool.not_eq_true'] at h;have hn:=yGy (n:=B.1.length) (l:=vJ l m) (fun q hq=>hl q ((ye l m).subset hq)) j;rw[h.1] at hn;obtain⟨x,hx,he⟩:=QD.1 hn;obtain⟨i,h1,h2,h3⟩:=vC3 (fU (d:=pd) hx);unfold ta at h3;have Qv:(l.getD i pd)=(vJ l m).getD x pd:=h2;grind
inductive kY (B:BT) (l:List zI):AC→AC→Nat→Prop
 |stop {m:AC} (h:eP B (vJ l m)=[]):kY B l m m 0
 |step {m f:AC} {n:Nat} (h:eP B (vJ l m)≠[]) (h':kY B l (fm (eP B (vJ l m)) m) f n):kY B l m f (n+1)
theorem Z2 {B l m}(hm:m.length=B.1.length):uU (fm (eP B l) m) m:=by
 refine⟨uV _ _,fun i hi=>?_⟩;rw[yMu B l hm];omega
theorem uU.trans {u v w}(h:uU u v)(h':uU v w):uU u w:=⟨h.1.trans h'.1,fun i hi=>Int.le_trans (h.2 i (by have:=h'.1;omega)) (h'.2 i hi)⟩
theorem uU.refl v:uU v v:=⟨rfl,by simp⟩
theorem kY.le {B l m f n}(h:kY B l m f n)(hm:m.length=B.1.length):uU f m:=by
 induction h with
 |stop _=>exact uU.refl _
 |step _ _ ih=>exact(ih ((uV _ _).trans hm)).trans (Z2 hm)
theorem kY.final {B l m f n}(h:kY B l m f n):eP B (vJ l f)=[]:=by
 induction h with
 |stop h=>exact h
 |step _ _ ih=>exact ih
def pB (m:AC):Prop:=∀i,0≤m.getD i 0
theorem Q5 {B l}(hl:∀q∈l,yN B.1.length q){m}(hm:m.length=B.1.length)(h0:pB m):pB (fm (eP B (vJ l m)) m):=by
 intro i;rw[yMu B _ hm];have:=h0 i;split
 ·rename_i c;have:=vRc hl c.2;omega
 ·omega
theorem kY.nonneg {B l}(hl:∀q∈l,yN B.1.length q){m f n}(h:kY B l m f n)(hm:m.length=B.1.length)(h0:pB m):pB f:=by
 induction h with
 |stop _=>exact h0
 |step _ _ ih=>exact ih ((uV _ _).trans hm) (Q5 hl hm h0)
def nq (m:AC):Int:=zR (fun x=>x) m
theorem vDx:∀m i x,i<m.length→nq (m.set i x)=nq m-m.getD i 0+x
 |y::m,0,x,_=>by
  show x+nq m=y+nq m-y+x;omega
 |y::m,i+1,x,h=>by
  show y+nq (m.set i x)=y+nq m-m.getD i 0+x;rw[vDx m i x (by simp_all)];omega
theorem yUh:∀s m,(∀i∈s,0≤i∧i<(m.length:Int))→nq (fm s m)=nq m-s.length
 |[],m,_=>by simp[fm]
 |i::s,m,h=>by
  have hi:=h i (by simp);show nq (fm s (m.set i.toNat (m.getD i.toNat 0-1)))=_;rw[yUh s _ (by grind),vDx _ _ _ (by omega)];grind
theorem Z3 {B l}:∀i∈eP B l,0≤i∧i<(B.1.length:Int):=by
 intro i hi;obtain⟨x,hx,rfl⟩:=List.mem_map.1 hi;simp_all
theorem yS4:∀{m},pB m→0≤nq m
 |[],_=>Int.le_refl 0
 |x::m,h=>by
  have h1:0≤x:=h 0;have h2:=yS4 (m:=m) (fun i=>h (i+1));show 0≤x+nq m;omega
theorem vAf {B l}(hl:∀q∈l,yN B.1.length q):∀(N:Nat) m,m.length=B.1.length→pB m→nq m≤N→∃f n,kY B l m f n∧n≤N
 |N,m,hm,h0,hN=>by
  by_cases c:eP B (vJ l m)=[]
  ·exact⟨m,0,.stop c,by simp⟩
  ·have ht:=yUh (eP B (vJ l m)) m (by rw[hm];exact Z3);have hp:0<(eP B (vJ l m)).length:=by grind
   have h1:=Q5 hl hm h0;have h2:=yS4 h1;obtain⟨N,rfl⟩:∃x,N=x+1:=⟨N-1,by omega⟩;obtain⟨f,n,h3,h4⟩:=vAf hl N _ ((uV _ _).trans hm) h1 (by omega);exact⟨f,n+1,.step c h3,by omega⟩
theorem Z4 l many:∀N,(np l many N).length≤N
 |0=>Nat.le_refl _
 |N+1=>by
  unfold np;have:=Z4 l many N;grind
theorem Z5 (l:List zI) i (hi:i<l.length) f:eu (l.take (i+1)) f=eu (l.take i) f+(if(l.getD i pd).2.1=f then 1 else 0):=by
 unfold eu;rw[B6 _ _ _ pd hi,aA];unfold jA;grind
def g9 (l:List zI)(n:Nat):AC:=(List.range n).map fun(i:Nat)=>((eu l i:Nat):Int)
theorem yMl l i:g9 l (i+1)=g9 l i++[((eu l i:Nat):Int)]:=by
 unfold g9;rw[List.range_succ,List.map_append];rfl
theorem yf l n:(g9 l n).length=n:=by
 unfold g9;simp
theorem Md:∀s m i,m.getD i 0-s.length≤(fm s m).getD i 0∧(fm s m).getD i 0≤m.getD i 0
 |[],m,i=>by simp[fm]
 |x::s,m,i=>by
  have h:=Md s (m.set x.toNat (m.getD x.toNat 0-1)) i;rw[fG] at h;have e:fm (x::s) m=fm s (m.set x.toNat (m.getD x.toNat 0-1)):=rfl;rw[e,List.length_cons];by_cases c:x.toNat=i∧x.toNat<m.length
  ·grind
  omega
theorem yV3 (s m:AC) i (hi:i<s.length):fm (s.take (i+1)) m=(fm (s.take i) m).set (s.getD i 0).toNat ((fm (s.take i) m).getD (s.getD i 0).toNat 0-1):=by
 unfold fm;rw[←fF s i 0 hi,List.foldl_append];rfl
theorem yRv g:∀n,zR (fun x=>x) ((List.range n).map g)=qI g n
 |0=>rfl
 |n+1=>by
  rw[List.range_succ,List.map_append,kS,yRv g n];show qI g n+(g n+0)=qI g n+g n;omega
theorem vZc l f:((eu l f:Nat):Int)=zR (fun p:zI=>if p.2.1=f then 1 else 0) l:=by
 induction l with
 |nil=>rfl
 |cons p l ih=>
  unfold eu jA at*
  show _=(if p.2.1=f then(1:Int) else 0)+zR _ l;grind
theorem vUy l n:nq (g9 l n)≤l.length:=by
 unfold nq g9;rw[yRv (fun i:Nat=>((eu l i:Nat):Int)) n,sN (h:=fun j=>zR (fun p:zI=>if p.2.1=(j:Int) then 1 else 0) l) (fun j _=>vZc l j),PU];have := (BN (A := 1) (l := l) (g := fun p : zI => qI (fun j => if p.2.1 = (j : Int) then 1 else 0) n) (fun p _=>by
  by_cases c:0≤p.2.1
  ·obtain⟨f,hf⟩:∃f:Nat,p.2.1=f:=⟨p.2.1.toNat,by omega⟩;have e:qI (fun j=>if p.2.1=(j:Int) then(1:Int) else 0) n=qI (fun j=>if j=f then 1 else 0) n:=by grind
   rw[e,BO];omega
  ·have e:qI (fun j=>if p.2.1=(j:Int) then(1:Int) else 0) n=qI (fun _=>0) n:=by grind
   rw[e,X8];omega)).2
 omega
theorem yF0 l n i:(g9 l n).getD i 0=if i<n then((eu l i:Nat):Int) else 0:=by
 unfold g9;grind
theorem vTw l f:eu l f≤l.length:=List.length_filter_le _ _
theorem Q6 {l}(hl:l.length≤9999) n:pB (g9 l n)∧∀i,(g9 l n).getD i 0≤9999:=by
 refine⟨fun i=>?_,fun i=>?_⟩
 ·rw[yF0];omega
 ·rw[yF0];have:=vTw l i;omega
theorem Me {B:BT}{l}(hl:∀q∈l,yN B.1.length q)(bS:l.length≤64) m:wD B.1.length (vJ l m):=
 ⟨fun p hp=>hl p ((ye l m).subset hp),by have:=(ye l m).length_le;omega⟩
def vC (l:List zI)(t:Int):List zI:=l.filter (kh t)
theorem Mh {n l t}(h:∀q∈l,yN n q):∀q∈vC l t,yN n q:=fun q hq=>h q (List.mem_filter.1 hq).1
theorem yg l t:(vC l t).length≤l.length:=List.length_filter_le _ _
theorem Z6 {B}(hb:qS B){l}(hl:∀q∈l,yN B.1.length q)(bS:l.length≤64) t:
  ∃f n,kY B (vC l t) (g9 (vC l t) B.1.length) f n∧n≤(vC l t).length:=by
 have h1:=Q6 (l:=vC l t) (by have:=yg l t;omega) B.1.length;have h2:=vUy (vC l t) B.1.length;exact vAf (Mh hl) (vC l t).length _ (yf _ _) h1.1 (by omega)
def pC (l:List zI)(hs:List zI):List zI:=hs.foldl (fun l p=>fl l p.1) l
theorem Z7 l id:(fl l id).length≤l.length∧List.Sublist (fl l id) l:=by
 unfold fl iD;cases vU l id with
 |none=>simp
 |some x=>exact⟨(uQ l x).length_le,uQ l x⟩
theorem Q7:∀hs l,(pC l hs).length≤l.length∧List.Sublist (pC l hs) l
 |[],l=>⟨Nat.le_refl _,List.Sublist.refl _⟩
 |p::hs,l=>by
  obtain⟨h1,h2⟩:=Q7 hs (fl l p.1);obtain⟨h3,h4⟩:=Z7 l p.1;exact⟨Nat.le_trans h1 h3,h2.trans h4⟩
theorem vGw (l hs:List zI) i (hi:i<hs.length):pC l (hs.take (i+1))=fl (pC l (hs.take i)) (hs.getD i pd).1:=by
 unfold pC;rw[←fF hs i pd hi,List.foldl_append];rfl
def GO (B:BT)(l hs:List zI)(r:List yA×EQ×AC×EQ×Int):(List (Int×Int×Int))×EQ×AC×EQ×(List zI)×(List zI):=
 bif !(decide (r.2.2.2.2=0)) then(B.1,B.2.1,B.2.2.1,B.2.2.2,l,[]) else(r.1,r.2.1,r.2.2.1,r.2.2.2.1,pC l hs,hs)
theorem Z8 {k:Nat}{l:List zI}(hk:l.length<k)(hl:qW l){many:AC}(h0:pB many)(hm:∀i,many.getD i 0≤9999)(GH:many.length≤9999):GP k l many=some (vJ l many):=by
 unfold qW at hl;unfold GP Z9 qLx;rw[qG];simp only[ai,ae];obtain ⟨s', h1, h2, h3, h4⟩ := vB (L := fun n i (s : AC × List zI) => GQ k n l l.length i s.1 s.2) (N := l.length) (fun s => s) (fun i s => s.1.length = many.length ∧ (∀ f : Nat, f < many.length → s.1.getD f 0 = if many.getD f 0 ≤ (eu (l.take i) f : Nat) then 0 else many.getD f 0 - (eu (l.take i) f : Nat)) ∧ s.2 = np l many i) (fun n s _=>by
  show GR k _ l l.length l.length s.1 s.2=_;unfold GR;simp only [qV, ab (Nat.lt_irrefl _), ak]) (fun n i s hi hs=>by
  obtain⟨s1,s2,s3⟩:=hs;have dP:s.2.length≤i:=by rw[s3];exact Z4 l many i
  show∃s',GR k _ l l.length i s.1 s.2=_∧_;unfold GR yDd;simp only[qA,qD hi (show l.length<9223372036854775808 by omega),qV,ao,aa hi,ai,oe (show s.2.length≤9999 by omega)];have nT:=fun f=>Z5 l i hi f
  have Kn:∀f:Nat,f<many.length→(l.getD i pd).2.1≠(f:Int)→(if many.getD f 0≤(eu (l.take (i+1)) f:Nat) then(0:Int) else many.getD f 0-(eu (l.take (i+1)) f:Nat))=if many.getD f 0≤(eu (l.take i) f:Nat) then 0 else many.getD f 0-(eu (l.take i) f:Nat):=by
   intro f hf bx;rw[nT f,if_neg bx,Nat.add_zero]
  have skip:ta l many i=false→(∀f:Nat,f<many.length→(l.getD i pd).2.1=(f:Int)→many.getD f 0≤(eu (l.take i) f:Nat))→(s.1.length=many.length∧(∀f:Nat,f<many.length→s.1.getD f 0=if many.getD f 0≤(eu (l.take (i+1)) f:Nat) then 0 else many.getD f 0-(eu (l.take (i+1)) f:Nat))∧s.2=np l many (i+1)):=by
   intro hh hz;refine⟨s1,fun f hf=>?_,?_⟩
   ·by_cases c:(l.getD i pd).2.1=(f:Int)
    ·have:=hz f hf c;rw[s2 f hf,if_pos this,nT f,if_pos c,if_pos (by omega)]
    ·rw[Kn f hf c,s2 f hf]
   ·show _=np l many i++_;rw[hh,s3];simp
  cases e1:decide ((l.getD i pd).2.1<0) with
  |true=>
   refine⟨s,rfl,skip ?_ ?_⟩
   ·unfold ta;rw[aZ] at e1;rw[ab (show¬(l.getD i pd).2.1≥0 by omega)];rfl
   ·intro f hf c;rw[aZ] at e1;omega
  |false=>
   cases e2:decide ((l.getD i pd).2.1≥((s.1.length:Nat):Int)) with
   |true=>
    refine⟨s,rfl,skip ?_ ?_⟩
    ·unfold ta;rw[aZ] at e2;rw[ab (show¬(l.getD i pd).2.1<(many.length:Int) by omega),Bool.and_false];rfl
    ·intro f hf c;rw[aZ] at e2;omega
   |false=>
    rw[decide_eq_false_iff_not] at e1 e2;obtain⟨f,hf⟩:∃f:Nat,(l.getD i pd).2.1=f:=⟨(l.getD i pd).2.1.toNat,by omega⟩;have O5:f<many.length:=by omega
    have ek:(l.getD i (0,(0,(0,(0,(0,(0,0))))))).2.1=f:=hf;simp only[ak,ek,qA,ao,s1,aa O5,ai];have Bk:ta l many i=decide (((eu (l.take i) f:Nat):Int)<many.getD f 0):=by
     unfold ta;rw[hf,aa (show(f:Int)≥0 by omega),aa (show(f:Int)<(many.length:Int) by omega),ao];rfl
    have iQ:=s2 f O5;cases e3:decide (s.1.getD f 0<1) with
    |true=>
     rw[aZ,iQ] at e3;have hle:many.getD f 0≤(eu (l.take i) f:Nat):=by
      by_cases c:many.getD f 0≤(eu (l.take i) f:Nat)
      ·exact c
      ·rw[if_neg c] at e3;omega
     refine⟨s,rfl,skip (by rw[Bk];exact ab) ?_⟩;intro g hg c;have:g=f:=by omega
     subst this;exact hle
    |false=>
     rw[decide_eq_false_iff_not] at e3;have hgt:¬many.getD f 0≤(eu (l.take i) f:Nat):=by
      intro c;rw[iQ,if_pos c] at e3;omega
     rw[if_neg hgt] at iQ;have ph:=hm f;have hw:zA (s.1.getD f 0-1)=s.1.getD f 0-1:=zQ;refine⟨(s.1.set f (s.1.getD f 0-1),s.2++[l.getD i pd]),?_,?_,?_,?_⟩
     ·simp only[ak,ae,ai,hw]
     ·rw[List.length_set];exact s1
     ·intro g hg;rw[fG];by_cases c:f=g
      ·subst c;rw[if_pos ⟨rfl,by omega⟩,nT f,if_pos hf,iQ];by_cases d:many.getD f 0≤((eu (l.take i) f+1:Nat):Int)
       ·rw[if_pos d];omega
       ·rw[if_neg d];omega
      ·rw[if_neg (fun e=>c e.1),Kn g hg (by omega)];exact s2 g hg
     ·show s.2++[l.getD i pd]=np l many i++_;rw[Bk,aa,s3];rfl) (s:=(many,[])) hk ⟨rfl,fun f hf=>by
   have:(eu (l.take 0) f:Nat)=0:=rfl;have h0f:=h0 f;rw[this];by_cases c:many.getD f 0≤((0:Nat):Int)
   ·rw[if_pos c];show many.getD f 0=0;omega
   ·rw[if_neg c];show many.getD f 0=_;omega,rfl⟩
 have fa:GQ k k l l.length 0 many []=some s':=h1;rw[fa];simp only[ae,h4];rfl
theorem yR2 {k l}(hk:l.length<k)(hl:qW l) f:Mi k l f=some (l.filter (jA f)):=by
 unfold Mi qVg;have := LF pd (L := fun n i s => Mj k n l l.length i f s) (jA f) id (fun n s=>by
  show GS k _ l l.length l.length f s=_;unfold GS;simp) (fun n i s hi hs=>by
  show GS k _ l l.length i f s=_;unfold GS qXo;unfold qW at hl;simp[qA,qD hi (by grind),oe (show s.length≤9999 by omega)];unfold jA;grind) hk
 simp_all
theorem vRb {k}{B:BT}{l}(hk:l.length<k)(hl:qW l)(hn:B.1.length<k)(hn':B.1.length≤9999) s7:
  Cf k k s7 B.1.length 0 B.1 B.2.1 B.2.2.1 B.2.2.2 [] l=some (s7,B.1,B.2.1,B.2.2.1,B.2.2.2,g9 l B.1.length,l):=by
 obtain ⟨s', h1, h2⟩ := vB (L := fun n i (s : AC) => Cf k n s7 B.1.length i B.1 B.2.1 B.2.2.1 B.2.2.2 s l) (N := B.1.length) (fun s => (s7, B.1, B.2.1, B.2.2.1, B.2.2.2, s, l)) (fun i s => s = g9 l i) (fun n s _=>by
  show GU k _ s7 B.1.length B.1.length B.1 B.2.1 B.2.2.1 B.2.2.2 s l=_;unfold GU;simp) (fun n i s hi hs=>by
  refine⟨_,?_,(yMl l i).symm⟩;show GU k _ s7 B.1.length i B.1 B.2.1 B.2.2.1 B.2.2.2 s l=_;unfold GU;have hr:zO (s.length+1) 8=true:=by rw[hs,yf];exact qG
  simp[aa hi,yR2 hk hl,hr,qD hi (by grind)];rw[hs];rfl) (s:=[]) hn rfl
 simp_all
theorem vWm {k}{B:BT}{l:List zI}{s m}(hk:s.length<k)(hs:s.length≤9999)(gx:∀x∈s,0≤x∧x<(m.length:Int))(h0:pB m)(hm:∀i,m.getD i 0≤9999) s7:
  GV k k s7 s.length 0 B.1 B.2.1 B.2.2.1 B.2.2.2 m l s=some (s7,B.1,B.2.1,B.2.2.1,B.2.2.2,fm s m,l):=by
 obtain ⟨s', h1, h2⟩ := vB (L := fun n i (r : AC) => GV k n s7 s.length i B.1 B.2.1 B.2.2.1 B.2.2.2 r l s) (N := s.length) (fun r => (s7, B.1, B.2.1, B.2.2.1, B.2.2.2, r, l)) (fun i r => r = fm (s.take i) m) (fun n r _=>by
  show GW k _ s7 s.length s.length B.1 B.2.1 B.2.2.1 B.2.2.2 r l s=_;unfold GW;simp) (fun n i r hi hr=>by
  refine⟨_,?_,(yV3 s m i hi).symm⟩;show GW k _ s7 s.length i B.1 B.2.1 B.2.2.1 B.2.2.2 r l s=_;unfold GW;obtain⟨b1,b2⟩:=gx _ (fU (d:=0) hi);have se:r.length=m.length:=by rw[hr,uV]
  have hb:zB (s.getD i 0) r.length=true:=jB b1 (by omega);have ET:=Md (s.take i) m (s.getD i 0).toNat;have ui:=h0 (s.getD i 0).toNat;have ph:=hm (s.getD i 0).toNat;have bd:(s.take i).length≤s.length:=by grind
  have hw:zA (r.getD (s.getD i 0).toNat 0-1)=r.getD (s.getD i 0).toNat 0-1:=by
   rw[hr];exact zQ
  simp only[qV,qA,ao,aa hi,ai,hb,hw,qD hi (by grind)];rw[hr]) (s:=m) hk rfl
 simp_all
theorem aaa {k}(hk:100<k){B}(hb:qS B){l}(hl:∀q∈l,yN B.1.length q)(bS:l.length≤64){m f n}(h:kY B l m f n):
  ∀N (s7:Int),m.length=B.1.length→pB m→(∀i,m.getD i 0≤9999)→n<N→0≤s7→s7+n<1000000→
  Mk k N s7 B.1 B.2.1 B.2.2.1 B.2.2.2 m l=some (s7+n+1,f):=by
 induction h with
 |@stop m h=>
  intro N s7 hm h0 h1 hn hs pW;obtain⟨N,rfl⟩:∃x,N=x+1:=⟨N-1,by omega⟩;have hY:=hb.n6;show GX k _ s7 B.1 B.2.1 B.2.2.1 B.2.2.2 m l=_;unfold GX;have hS:=Y7 hk hb (Me hl bS m);have oU:B4 k B.1 B.2.1 B.2.2.1 B.2.2.2 (vJ l m)=some (eP B (vJ l m)):=hS;rw[Z8 (by omega) (show qW l by show l.length≤9999;omega) h0 h1 (by omega)];simp[ae];rw[oU,h];have w:zA (s7+1)=s7+1:=zQ;rw[w];simp
 |@step m f n h h' ih=>
  intro N s7 hm h0 h1 hn hs pW;obtain⟨N,rfl⟩:∃x,N=x+1:=⟨N-1,by omega⟩;have hY:=hb.n6;show GX k _ s7 B.1 B.2.1 B.2.2.1 B.2.2.2 m l=_;unfold GX;have hS:=Y7 hk hb (Me hl bS m);have oU:B4 k B.1 B.2.1 B.2.2.1 B.2.2.2 (vJ l m)=some (eP B (vJ l m)):=hS;rw[Z8 (by omega) (show qW l by show l.length≤9999;omega) h0 h1 (by omega)];simp only[ae];rw[oU];simp only[ae];have w:zA (s7+1)=s7+1:=zQ;have bx : decide ((((eP B (vJ l m)).length : Nat) : Int) = 0) = false := ab (by
   simp_all)
  have dP:(eP B (vJ l m)).length≤B.1.length:=by
   unfold eP uO;grind
  rw[bx,w];rw[vWm (by omega) (by omega) (by rw[hm];exact Z3) h0 h1];simp;have hd0:=Q5 hl hm h0;have:=ih N (s7+1) ((uV _ _).trans hm) hd0 (fun i=>by have:=(Md (eP B (vJ l m)) m i).2;have:=h1 i;omega) (by omega) (by omega) (by omega);rw[this]
  congr 2
  omega
theorem aab {k}(hk:100<k){B}(hb:qS B){l}(hl:∀q∈l,yN B.1.length q)(bS:l.length≤64) t {f n}(hn:n≤l.length)(h:kY B (vC l t) (g9 (vC l t) B.1.length) f n):
  Q8 k B.1 B.2.1 B.2.2.1 B.2.2.2 l t=some (f,((n+1:Nat):Int)):=by
 have hY:=hb.n6;have hr:=yg l t;have h1:=Q6 (l:=vC l t) (by omega) B.1.length;unfold Q8;rw[Zc (by omega) (by show l.length≤9999;omega)];simp;have e:Cf k k 0 B.1.length 0 B.1 B.2.1 B.2.2.1 B.2.2.2 [] (l.filter (kh t))=_:=vRb (k:=k) (B:=B) (l:=vC l t) (by omega) (by show(vC l t).length≤9999;omega) (by omega) (by omega) 0;rw[e];simp;rw[aaa hk hb (Mh hl) (by omega) h k 0 (yf _ _) h1.1 h1.2 (by omega) (by omega) (by omega)];simp
theorem vOs {k}{C:BT}{l hs:List zI}(hl:l.length<k)(dL:l.length≤9999)(hk:hs.length<k)(hh:hs.length≤9999):
  Cg k k l hs.length 0 C.1 C.2.1 C.2.2.1 C.2.2.2 hs=some (pC l hs,C.1,C.2.1,C.2.2.1,C.2.2.2,hs):=by
 obtain ⟨s', h1, h2⟩ := vB (L := fun n i (s : List zI) => Cg k n s hs.length i C.1 C.2.1 C.2.2.1 C.2.2.2 hs) (N := hs.length) (fun s => (s, C.1, C.2.1, C.2.2.1, C.2.2.2, hs)) (fun i s => s = pC l (hs.take i)) (fun n s _=>by
  show GY k _ s hs.length hs.length C.1 C.2.1 C.2.2.1 C.2.2.2 hs=_;unfold GY;simp) (fun n i s hi hr=>by
  refine⟨_,?_,(vGw l hs i hi).symm⟩;show GY k _ s hs.length i C.1 C.2.1 C.2.2.1 C.2.2.2 hs=_;unfold GY;have dP:=(Q7 (hs.take i) l).1;rw[←hr] at dP⊢;simp[qA,aa hi,B9 (show s.length<k by omega) (show qW s by show s.length≤9999;omega),qD hi (by grind)];rfl) (s:=l) hk rfl
 simp_all
theorem qX9 {k:Nat}(hk:100<k){B:BT}(hb:qS B){l:List zI}(hl:∀q∈l,yN B.1.length q)(bS:l.length≤64)(t:Int){f:AC}{n:Nat}(hn:n≤l.length)(h:kY B (vC l t) (g9 (vC l t) B.1.length) f n)
  {r:List yA×EQ×AC×EQ×Int} (hr:qp k B.1 B.2.1 B.2.2.1 B.2.2.2 (vJ (vC l t) f)=some r):Ch k B.1 B.2.1 B.2.2.1 B.2.2.2 l t=some (GO B l (vJ (vC l t) f) r):=by
 have hY:=hb.n6;have se:=yg l t;have h1:=Q6 (l:=vC l t) (by omega) B.1.length;have hle:=h.le (yf _ _);have h0:=h.nonneg (Mh hl) (yf _ _) h1.1;have O5:f.length=B.1.length:=hle.1.trans (yf _ _);have hf:∀i,f.getD i 0≤9999:=fun i=>by
  by_cases c:i<(g9 (vC l t) B.1.length).length
  ·have:=hle.2 i c;have:=h1.2 i;omega
  ·rw[bX,List.getElem?_eq_none (by have:=hle.1;omega)];show(0:Int)≤9999;omega
 have Q9:=(ye (vC l t) f).length_le;unfold Ch;rw[aab hk hb hl bS t hn h,Zc (by omega) (by show l.length≤9999;omega)];simp only[ae];have e:GP k (l.filter (kh t)) f=_:=Z8 (k:=k) (l:=vC l t) (by omega) (by show(vC l t).length≤9999;omega) h0 hf (by omega);rw[e];simp only[ae];rw[hr];simp only[ae];unfold GO;cases decide (r.2.2.2.2=0) with
 |false=>rfl
 |true=>
  simp only[aB,ak];have e2:Cg k k l ((List.length (vJ (vC l t) f):Nat):Int) 0 r.1 r.2.1 r.2.2.1 r.2.2.2.1 (vJ (vC l t) f)=_:=vOs (C:=(r.1,r.2.1,r.2.2.1,r.2.2.2.1)) (by omega) (by omega) (by omega) (by omega);rw[e2];rfl
theorem vQ3 {l x}(hx:x<l.length):List.Perm (l.getD x pd::yL l x) l:=by
 unfold yL;have h:List.Perm (l.getD x pd::(l.take x++l.drop (x+1))) (l.take x++l.getD x pd::l.drop (x+1)):=by grind
 simp_all
theorem Ra {l}(hd:qL l){p}(hp:p∈l):List.Perm (p::fl l p.1) l:=by
 obtain⟨x,hx⟩:=QL hp;have h:=kW hx;have e:l.getD x pd=p:=hd.eq_of (by grind) hp h.2;unfold fl iD;have:=vQ3 h.1;simp_all
theorem gZ.perm {k t B C l done m}(h:gZ k t B l done C m)(hd:qL l):List.Perm (done++m) l:=by
 induction h with
 |stop _=>rfl
 |step h _ ih=>
  have hp:=GD (Cd h).1;exact((ih (List.Pairwise.sublist (uT hp).2 hd)).cons _).trans (Ra hd hp)
theorem eg.perm {k t B C l done m}(h:eg k t B l done C m)(hd:qL l):List.Perm (done++m) l:=by
 induction h with
 |stop _=>rfl
 |step h _ ih=>
  obtain⟨hp,hq,pA,_⟩:=GJ h;obtain⟨h1,h2⟩:=GK hd hp hq pA;have xl:qL (fl _ _):=List.Pairwise.sublist (uT hp).2 hd;have py:=ZW hp hq (vFa hd hp hq pA);exact(((ih (List.Pairwise.sublist h2 hd)).cons _).cons _).trans (((Ra xl py).cons _).trans (Ra hd hp))
theorem gZ.final {k t B C l done m}(h:gZ k t B l done C m):fW k C (wC m t)=none:=by
 induction h with
 |stop h=>exact h
 |step _ _ ih=>exact ih
theorem eg.final {k t B C l done m}(h:eg k t B l done C m):fP k C m t=none:=by
 induction h with
 |stop h=>exact h
 |step _ _ ih=>exact ih
theorem qL.perm {l m}(h:qL l)(hp:List.Perm m l):qL m:=(List.Perm.pairwise_iff (R:=fun p q:zI=>p.1≠q.1) (by grind) hp.symm).1 h
inductive mB (k:Nat) (t:Int):BT→List zI→List zI→BT→List zI→Prop
 |stop {B C:BT} {l m d:List zI} (h1:gZ k t B l d C m) (h2:fP k C m t=none):mB k t B l d C m
 |step {B C D E:BT} {l m n o d e f:List zI} (h1:gZ k t B l d C m) (h2:eg k t C m e D n) (ne:e≠[]) (h':mB k t D n f E o):mB k t B l (d++e++f) E o
theorem mB.perm {k t B C l done m}(h:mB k t B l done C m)(hd:qL l):List.Perm (done++m) l:=by
 induction h with
 |stop h1 _=>exact h1.perm hd
 |@step B C D E l m n o d e f h1 h2 ne h' ih=>
  have p1:=h1.perm hd;have hd1:=hd.perm p1;have hm:qL m:=(List.pairwise_append.1 hd1).2.1;have p2:=h2.perm hm;have hn:qL n:=(List.pairwise_append.1 (hm.perm p2)).2.1;grind
theorem mB.final {k t B C l done m}(h:mB k t B l done C m):fW k C (wC m t)=none∧fP k C m t=none:=by
 induction h with
 |stop h1 h2=>exact⟨h1.final,h2⟩
 |step _ _ _ _ ih=>exact ih
theorem gZ.none {k t B C l done m}(h:gZ k t B l done C m)(hn:fW k B (wC l t)=none):done=[]∧C=B∧m=l:=by
 cases h with
 |stop _=>simp
 |step h _=>simp_all
theorem eg.none {k t B C l done m}(h:eg k t B l done C m)(hn:fP k B l t=none):done=[]∧C=B∧m=l:=by
 cases h with
 |stop _=>simp
 |step h _=>simp_all
theorem eg.nil {k t B C l m}(h:eg k t B l [] C m):fP k B l t=Option.none∧C=B∧m=l:=by
 cases h with
 |stop h=>simp_all
theorem mB.none {k t B C l done m}(h:mB k t B l done C m)(h1:fW k B (wC l t)=Option.none)(h2:fP k B l t=Option.none):done=[]∧C=B∧m=l:=by
 cases h with
 |stop g1 _=>exact g1.none h1
 |step g1 g2 ne _=>
  obtain⟨rfl,rfl,rfl⟩:=g1.none h1;obtain⟨rfl,_,_⟩:=g2.none h2;simp_all
theorem yK5 {k:Nat}(hk:200≤k)(t:Int):∀(n:Nat) (B:BT) (l r:List zI),qS B→qL l→l.length≤100→l.length<n→r.length+l.length≤900→
  ∃(C:BT) (m done:List zI),Mm k n t l B.1 B.2.1 B.2.2.1 B.2.2.2 r=some (m,C.1,C.2.1,C.2.2.1,C.2.2.2,r++done)∧mB k t B l done C m∧qS C∧C.1.length=B.1.length∧List.Sublist m l
 |0,_,_,_,_,_,_,h,_=>absurd h (Nat.not_lt_zero _)
 |n+1,B,l,r,hb,hd,hl,hn,hr=>by
  obtain⟨C,m,d,f1,f2,f3,f4,f5⟩:=ZT hk hb hd hl t;have p1:=f2.perm hd;have l1:=p1.length_eq;rw[aA] at l1;have hm:qL m:=List.Pairwise.sublist f5 hd;obtain⟨D,o,e,g1,g2,g3,g4,g5⟩:=Z0 hk f3 hm (by omega) t;have p2:=g2.perm hm;have l2:=p2.length_eq;rw[aA] at l2;have r1:zO (r.length+d.length) 56=true:=qG;have r2:zO ((r++d).length+e.length) 56=true:=qG (by rw[aA];omega) (by grind);show∃C' m' ahu,Rb k _ t l B.1 B.2.1 B.2.2.1 B.2.2.2 r=_∧_;unfold Rb;rw[f1];simp only[ae];rw[g1];simp only[ae,r1,r2,ai];cases e with
  |nil=>
   obtain⟨h1,h2,h3⟩:=g2.nil;subst h2;subst h3;refine⟨D,o,d,?_,.stop f2 h1,f3,f4,f5⟩;simp
  |cons p e=>
   have bd:o.length+(e.length+1)=m.length:=by simp at l2;omega
   obtain⟨E,q,f,k1,k2,k3,k4,k5⟩:=yK5 hk t n D o (r++d++(p::e)) g3 (List.Pairwise.sublist g5 hm) (by omega) (by omega) (by simp;omega);refine⟨E,q,d++(p::e)++f,?_,.step f2 g2 (by simp) k2,k3,k4.trans (g4.trans f4),k5.trans (g5.trans f5)⟩;grind
theorem GZ {k}(hk:200≤k){B}(hb:qS B){l}(hd:qL l)(hl:l.length≤100) t:
  ∃(C:BT) (m done:List zI),Mn k B.1 B.2.1 B.2.2.1 B.2.2.2 l t=some (C.1,C.2.1,C.2.2.1,C.2.2.2,m,done)∧mB k t B l done C m∧qS C∧C.1.length=B.1.length∧List.Sublist m l:=by
 obtain⟨C,m,done,h1,h3⟩:=yK5 hk t k B l [] hb hd hl (by omega) (by grind);refine⟨C,m,done,?_,h3⟩;unfold Mn;simp_all
theorem yVq:∀hs l,qL l→qL hs→(∀q∈hs,q∈l)→List.Perm (hs++pC l hs) l
 |[],l,_,_,_=>List.Perm.refl _
 |p::hs,l,hd,hh,gx=>by
  have hp:=gx p (by simp);obtain⟨h1,h2⟩:=uT hp;have hc:=List.pairwise_cons.1 hh;have:=yVq hs (fl l p.1) (List.Pairwise.sublist h2 hd) hc.2 (fun q hq=>ZW hp (by grind) (by grind));exact(this.cons p).trans (Ra hd hp)
theorem vRp {k}(hk:100<k){B}(hb:qS B):qp k B.1 B.2.1 B.2.2.1 B.2.2.2 []=some (B.1,B.2.1,B.2.2.1,B.2.2.2,0):=by
  obtain⟨r,h1,h3⟩:=Qs hk hb (l:=[]) (by simp);have aT:wD B.1.length []:=⟨by simp,by simp⟩;obtain⟨a',p',h4,h5⟩:=h3.1 aT;have an:uK B.1.length B.1 B.2.2.2 [] B.1 B.2.2.2:={
    al:=rfl
    acct:=fun i hi=>by
      have hr:0≤(B.1.getD i ad).2.2:=by
        have:=hb.nums.res i hi;omega
      show B.1.getD i ad=((B.1.getD i ad).1+0,(B.1.getD i ad).2.1,jF (B.1.getD i ad).2.2 0);have e:jF (B.1.getD i ad).2.2 0=(B.1.getD i ad).2.2:=by
        unfold jF;omega
      simp_all
    pl:=hb.pl
    pr:=hb.pr
    cell:=fun i hi j hj=>by show _=_+0-0;omega}
  obtain⟨e1,e2⟩:=h4.same an;subst e1;subst e2;rw[Ft.2 hb] at h5;simp_all
theorem qZx {k:Nat}(hk:200≤k){B:BT}(hb:qS B){l:List zI}(hd:qL l)(hl:∀q∈l,yN B.1.length q)(bS:l.length≤64)(t:Int):
  ∃(C:BT) (m done:List zI),Ch k B.1 B.2.1 B.2.2.1 B.2.2.2 l t=some (C.1,C.2.1,C.2.2.1,C.2.2.2,m,done)∧qS C∧C.1.length=B.1.length∧List.Sublist m l∧List.Perm (done++m) l∧(done=[]→C=B∧m=l):=by
 obtain⟨f,n,h,hn⟩:=Z6 hb hl bS t;have se:=yg l t;have cP:=ye (vC l t) f;have Q9:=cP.length_le;obtain⟨r,h1,h2,h3⟩:=GC (k:=k) (by omega) hb (l:=vJ (vC l t) f) (by omega);have hs:=QY hb h3;have g1:=qX9 (k:=k) (by omega) hb hl bS t (by omega) h h1;unfold GO at g1;cases c:decide (r.2.2.2.2=0) with
 |false=>
  rw[c] at g1;exact⟨B,l,[],g1,hb,rfl,List.Sublist.refl _,List.Perm.refl _,fun _=>⟨rfl,rfl⟩⟩
 |true=>
  rw[c] at g1;have dP:List.Sublist (vJ (vC l t) f) l:=cP.trans List.filter_sublist;have hal:r.1.length=B.1.length:=by
   by_cases c':wD B.1.length (vJ (vC l t) f)
   ·obtain⟨a',p',x,e⟩:=h3.1 c';cases hi:kV a' B.2.1 B.2.2.1 p' with
    |false=>rw[hi] at e;subst e;rfl
    |true=>rw[hi] at e;subst e;exact x.al
   ·rw[h3.2 c']
  refine⟨(r.1,r.2.1,r.2.2.1,r.2.2.2.1),pC l (vJ (vC l t) f),vJ (vC l t) f,g1,hs.2.1,hal,(Q7 _ _).2,yVq _ _ hd (List.Pairwise.sublist dP hd) (fun q hq=>dP.subset hq),fun e=>?_⟩;rw[e] at h1⊢;rw[vRp (by omega) hb] at h1;cases h1;exact⟨rfl,rfl⟩
theorem vUf {k}(hk:200≤k){B}(hb:qS B){l}(hd:qL l)(hl:∀q∈l,yN B.1.length q)(bS:l.length≤64) t all:
  ∃(C:BT) (m done:List zI),yh k B.1 B.2.1 B.2.2.1 B.2.2.2 l t all=some (C.1,C.2.1,C.2.2.1,C.2.2.2,m,done)∧qS C∧C.1.length=B.1.length∧List.Sublist m l∧List.Perm (done++m) l∧fW k C (wC m t)=none∧fP k C m t=none:=by
 obtain⟨C,m,d,f1,f2,f3,f4,f5⟩:=GZ hk hb hd (by omega) t;have p1:=f2.perm hd;have l1:=p1.length_eq;rw[aA] at l1;unfold yh;rw[f1];simp only[ae];cases all with
 |false=>exact⟨C,m,d,rfl,f3,f4,f5,p1,f2.final⟩
 |true=>
  have hm:qL m:=List.Pairwise.sublist f5 hd;obtain⟨D,n,x,g1,g2,g3,g4,g5,g6⟩:=qZx hk f3 hm (by grind) (by omega) t;have l2:=g5.length_eq;rw[aA] at l2;rw[g1];simp only[ae];cases x with
  |nil=>
   obtain⟨rfl,rfl⟩:=g6 rfl;exact⟨D,n,d,rfl,f3,f4,f5,p1,f2.final⟩
  |cons p x=>
   have e1:decide ((((p::x).length:Nat):Int)=0)=false:=by grind
   have hn:qL n:=List.Pairwise.sublist g4 hm;obtain⟨E,o,y,k1,k2,k3,k4,k5⟩:=GZ hk g2 hn (by omega) t;have p3:=k2.perm hn;have l3:=p3.length_eq;rw[aA] at l3;have r1:zO (d.length+(p::x).length) 56=true:=qG;have r2:zO ((d++(p::x)).length+y.length) 56=true:=qG (by simp at l2⊢;omega) (by simp at l2⊢;omega);rw[k1];simp only[ae,r1,r2];refine⟨E,o,d++(p::x)++y,rfl,k3,k4.trans (g3.trans f4),k5.trans (g4.trans f5),?_,k2.final⟩;have e2:d++(p::x)++y++o=d++((p::x)++(y++o)):=by simp
   rw[e2];exact((p3.append_left (p::x)).append_left d).trans ((g5.append_left d).trans p1)
abbrev yJ:=Int×Int×Int×Int×Int×Int×Int×Int
abbrev od:yJ:=(0,(0,(0,(0,(0,(0,(0,0)))))))
instance Ck:DecidableEq yJ:=@instDecidableEqProd Int (Int×Int×Int×Int×Int×Int×Int) inferInstance (@instDecidableEqProd Int (Int×Int×Int×Int×Int×Int) inferInstance inferInstance)
def fJ (to:Int)(p:zI):yJ:=(to,18,p.1,p.2.1,p.2.2.1,p.2.2.2.1,0,0)
def tc (p:zI):List yJ:=[fJ p.2.1 p,fJ p.2.2.1 p]
def vP:List zI→List yJ
 |[]=>[]
 |p::l=>tc p++vP l
theorem yR7:∀l m,vP (l++m)=vP l++vP m
 |[],_=>rfl
 |p::l,m=>by
  show tc p++vP (l++m)=tc p++vP l++vP m;rw[yR7 l m,List.append_assoc]
theorem G0:∀l,(vP l).length=2*l.length
 |[]=>rfl
 |p::l=>by
  show(tc p++vP l).length=_;rw[aA,G0 l];simp[tc];omega
theorem yQ0 (l:List zI) i (hi:i<l.length):vP (l.take (i+1))=vP (l.take i)++tc (l.getD i pd):=by
 rw[←fF l i pd hi,yR7];rfl
theorem yi {n}(h:n≤9999):zO (n+1) 64=true:=qG
theorem aac {k}(hk:3≤k)(s8:List zI) s9 av (r:List yJ)(hr:r.length≤900) p:
  yj k k s8 s9 av 2 0 r p.1 p.2.1 p.2.2.1 p.2.2.2.1 p.2.2.2.2.1 p.2.2.2.2.2.1 p.2.2.2.2.2.2 [p.2.1,p.2.2.1]=some (s8,s9,av,r++tc p):=by
 obtain⟨n,rfl⟩:∃n,k=n+3:=⟨k-3,by omega⟩;have e1:zO (r.length+1) 64=true:=yi (by omega);have e2:zO ((r++[fJ p.2.1 p]).length+1) 64=true:=yi (by grind);have h1:re (n+3) p.2.1 18 [p.1,p.2.1,p.2.2.1,p.2.2.2.1]=some (fJ p.2.1 p):=rfl;have h2:re (n+3) p.2.2.1 18 [p.1,p.2.1,p.2.2.1,p.2.2.2.1]=some (fJ p.2.2.1 p):=rfl;have w0:zA (0+1)=1:=by decide
 have w1:zA (1+1)=2:=by decide
 show yk (n+3) (yj (n+3) (n+2)) s8 s9 av 2 0 r p.1 p.2.1 p.2.2.1 p.2.2.2.1 p.2.2.2.2.1 p.2.2.2.2.2.1 p.2.2.2.2.2.2 [p.2.1,p.2.2.1]=_;unfold yk;have g0:[p.2.1,p.2.2.1].getD (Int.toNat 0) 0=p.2.1:=rfl;have b0:zB 0 [p.2.1,p.2.2.1].length=true:=rfl;have d0:decide ((0:Int)<2)=true:=rfl;simp[e1];show yk (n+3) (yj (n+3) (n+1)) s8 s9 av 2 1 (r++[fJ p.2.1 p]) p.1 p.2.1 p.2.2.1 p.2.2.2.1 p.2.2.2.2.1 p.2.2.2.2.2.1 p.2.2.2.2.2.2 [p.2.1,p.2.2.1]=_;unfold yk;have g1:[p.2.1,p.2.2.1].getD (Int.toNat 1) 0=p.2.2.1:=rfl;have b1:zB 1 [p.2.1,p.2.2.1].length=true:=rfl;have d1:decide ((1:Int)<2)=true:=rfl;simp only[ai,ae,e2];show yk (n+3) (yj (n+3) n) s8 s9 av 2 2 (r++[fJ p.2.1 p]++[fJ p.2.2.1 p]) p.1 p.2.1 p.2.2.1 p.2.2.2.1 p.2.2.2.2.1 p.2.2.2.2.2.1 p.2.2.2.2.2.2 [p.2.1,p.2.2.1]=_;unfold yk;have d2:decide ((2:Int)<2)=false:=rfl;rw[d2,List.append_assoc];rfl
theorem vA8 {k}{l:List zI}(hk:l.length+3≤k)(hl:l.length≤400):Rc k l=some (vP l):=by
 unfold Rc;obtain ⟨s', h1, h2⟩ := vB (L := fun n i (s : List yJ) => Mo k n l l.length i s) (N := l.length) (fun s => s) (fun i s => s = vP (l.take i)) (fun n s _=>by
  show G1 k _ l l.length l.length s=_;unfold G1;simp) (fun n i s hi hs=>by
  refine⟨_,?_,(yQ0 l i hi).symm⟩;show G1 k _ l l.length i s=_;unfold G1;have dP:s.length≤900:=by
   rw[hs,G0,bY];omega
  have h2:=aac (k:=k) (by omega) l l.length i s dP (l.getD i pd);simp only[qA,qV,ao,aa hi,ai];rw[h2];simp[qD hi (by grind)];rw[hs]) (s:=[]) (show l.length<k by omega) rfl
 simp_all
theorem vLd {k}{l:List zI}(hk:l.length+5≤k)(hl:l.length≤400):Re k l=some (vP l):=by
 unfold Re;obtain ⟨s', h1, h2⟩ := vB (L := fun n i (s : List yJ) => Mp k n l i s) (N := l.length) (fun s => s) (fun i s => s = vP (l.take i)) (fun n s _=>by
  show G2 k _ l l.length s=_;unfold G2;simp) (fun n i s hi hs=>by
  refine⟨_,?_,(yQ0 l i hi).symm⟩;show G2 k _ l i s=_;unfold G2;have dP:s.length≤900:=by
   rw[hs,G0,bY];omega
  obtain⟨j,rfl⟩:∃j,k=j+5:=⟨k-5,by omega⟩;have e2:zO (s.length+2) 64=true:=qG;simp[qA,aa hi,e2,qD hi (by grind)];rw[hs];rfl) (s:=[]) (show l.length<k by omega) rfl
 simp_all
theorem eq8 (p q:yJ):((decide (p.1=q.1))&&((decide (p.2.1=q.2.1))&&((decide (p.2.2.1=q.2.2.1))&&((decide (p.2.2.2.1=q.2.2.2.1))&&((decide (p.2.2.2.2.1=q.2.2.2.2.1))&&((decide (p.2.2.2.2.2.1=q.2.2.2.2.2.1))&&((decide (p.2.2.2.2.2.2.1=q.2.2.2.2.2.2.1))&&(decide (p.2.2.2.2.2.2.2=q.2.2.2.2.2.2.2)))))))))=decide (p=q):=by
 grind
theorem aad {k}{a b:List yJ}(hk:a.length<k)(hl:a.length<9223372036854775808):G3 k a b=some (decide (a=b)):=by
 unfold G3;by_cases hlen:a.length=b.length
 case neg=>
  have e:decide (((a.length:Nat):Int)=((b.length:Nat):Int))=false:=by grind
  have:a≠b:=by grind
  simp_all
 have e:decide (((a.length:Nat):Int)=((b.length:Nat):Int))=true:=by grind
 have := fg (L := fun n i => Mq k n a b i) (N := a.length) (fun i => decide (a.getD i od = b.getD i od)) (.inl ()) (.inr false) (fun n=>by
  show G4 k _ a b a.length=_;unfold G4;simp) (fun n i hi=>by
  show G4 k _ a b i=_;unfold G4;have e8:=eq8 (a.getD i od) (b.getD i od);simp only[qA,qD hi hl];simp_all) hk
 rw[this,Ld od hlen];grind
def fY (q:zI)(o:yJ):Bool:=decide (o.2.2.1=q.1)&&(decide (o.1=q.2.1)&&(decide (o.2.1=21)||(decide (o.2.1=22)||decide (o.2.1=18))))
def kZ (q:zI)(o:List yJ):Nat:=o.countP (fY q)
theorem Cl q a b:kZ q (a++b)=kZ q a+kZ q b:=List.countP_append
theorem qZi {f:zI→Bool}{q:zI}:∀{ps:List zI},qL ps→q∈ps→f q=true→(∀p∈ps,f p=true→p.1=q.1)→ps.countP f=1
 |[],_,h,_,_=>by cases h
 |p::ps,hd,hq,hf,hu=>by
  have hc:=List.pairwise_cons.1 hd;rw[List.countP_cons];rcases List.mem_cons.1 hq with rfl|hq
  ·rw[hf,if_pos rfl];have:ps.countP f=0:=by
    rw[List.countP_eq_zero];intro r hr BA;exact hc.1 r hr (hu r (List.mem_cons_of_mem _ hr) BA).symm
   omega
  ·have:f p=false:=by
    cases h:f p with
    |false=>rfl
    |true=>exact absurd (hu p (List.mem_cons_self ..) h) (hc.1 q hq)
   rw[this,qZi hc.2 hq hf (fun r hr=>hu r (List.mem_cons_of_mem _ hr))];rfl
def wR (kd:Int)(p:zI):yJ:=(p.2.1,kd,p.1,0,0,0,0,0)
theorem G5 {kd:Int}(hk:kd=21∨kd=22){q:zI}{ps:List zI}(hd:qL ps):(q∈ps→kZ q (ps.map (wR kd))=1)∧((∀p∈ps,p.1≠q.1)→kZ q (ps.map (wR kd))=0):=by
 unfold kZ;rw[List.countP_map];constructor
 ·intro h;apply qZi hd h
  ·show fY q (wR kd q)=true;unfold fY wR;rcases hk with rfl|rfl<;>simp
  ·intro p hp hf;have ek:fY q (wR kd p)=true:=hf;unfold fY wR at ek;rw[aR,aZ] at ek;exact ek.1
 ·intro h;rw[List.countP_eq_zero];intro p hp hf;have ek:fY q (wR kd p)=true:=hf;unfold fY wR at ek;rw[aR,aZ] at ek;exact h p hp ek.1
theorem vAo q:∀d,kZ q (vP d)=d.countP (fun p=>fY q (fJ p.2.1 p))+d.countP (fun p=>fY q (fJ p.2.2.1 p))
 |[]=>rfl
 |p::d=>by
  show kZ q (tc p++vP d)=_;rw[Cl,vAo q d,List.countP_cons,List.countP_cons];have e:kZ q (tc p)=(if fY q (fJ p.2.1 p)=true then 1 else 0)+(if fY q (fJ p.2.2.1 p)=true then 1 else 0):=by
   unfold kZ tc;grind
  omega
theorem Rf {n:Nat}{q:zI}{d:List zI}(hd:qL d)(hm:∀p∈d,yN n p):(q∈d→kZ q (vP d)=1)∧((∀p∈d,p.1≠q.1)→kZ q (vP d)=0):=by
 have h2:∀(l:List zI),qL l→(∀p∈l,yN n p)→(q∈l∨∀p∈l,p.1≠q.1)→l.countP (fun p=>fY q (fJ p.2.2.1 p))=0:=by
  intro l td GH hq;rw[List.countP_eq_zero];intro p hp hf;have ek:fY q (fJ p.2.2.1 p)=true:=hf;unfold fY fJ at ek;rw[aR,aR,aZ,aZ] at ek;rcases hq with hq|hq
  ·have:=td.eq_of hp hq ek.1;subst this;exact(GH p hp).ne ek.2.1.symm
  ·exact hq p hp ek.1
 rw[vAo];constructor
 ·intro h;rw[h2 d hd hm (.inl h),qZi hd h]
  ·show fY q (fJ q.2.1 q)=true;unfold fY fJ;simp
  ·intro p hp hf;have ek:fY q (fJ p.2.1 p)=true:=hf;unfold fY fJ at ek;rw[aR,aZ] at ek;exact ek.1
 ·intro h;rw[h2 d hd hm (.inr h)];have:d.countP (fun p=>fY q (fJ p.2.1 p))=0:=by
   rw[List.countP_eq_zero];intro p hp hf;have ek:fY q (fJ p.2.1 p)=true:=hf;unfold fY fJ at ek;rw[aR,aZ] at ek;exact h p hp ek.1
  omega
def yl (B:BT)(i:Nat):yJ:=((i:Int),23,(B.1.getD i ad).1,0,0,0,0,0)
def iY (B:BT)(n:Nat):List yJ:=(List.range n).map (yl B)
theorem vCr q B n:kZ q (iY B n)=0:=by
 unfold kZ iY;rw[List.countP_map,List.countP_eq_zero];intro i _ hf;have ek:fY q (yl B i)=true:=hf;unfold fY yl at ek;simp at ek
theorem yGj B i:iY B (i+1)=iY B i++[yl B i]:=by
 unfold iY;rw[List.range_succ,List.map_append];rfl
theorem yLs {α β:Type}(f:α→β)(l:List α) i d (h:i<l.length):(l.take (i+1)).map f=(l.take i).map f++[f (l.getD i d)]:=by
 rw[←fF l i d h,List.map_append];rfl
theorem yK6 {k B}(hB:B.1.length≤6)(hk:200≤k){m:List zI}(hm:m.length≤100) t pr ho ids to ov:
  Rg k t B.1 B.2.1 B.2.2.1 B.2.2.2 pr ho m ids to ov=some (t,B.1,B.2.1,B.2.2.1,B.2.2.2,pr,ho,[],ids,to,true,m.map (wR 22)++iY B B.1.length):=by
 unfold Rg;obtain ⟨s', h1, h2⟩ := vB (L := fun n i (s : List yJ) => G6 k n m m.length i t B.1 B.2.1 B.2.2.1 B.2.2.2 pr ho m ids to ov 0 0 false s) (N := m.length) (fun s => (t, B.1, B.2.1, B.2.2.1, B.2.2.2, pr, ho, m, ids, to, ov, 0, 0, false, s)) (fun i s => s = (m.take i).map (wR 22)) (fun n s _=>by
  show G7 k _ m m.length m.length t B.1 B.2.1 B.2.2.1 B.2.2.2 pr ho m ids to ov 0 0 false s=_;unfold G7;simp) (fun n i s hi hs=>by
  refine⟨_,?_,(yLs (wR 22) m i pd hi).symm⟩;show G7 k _ m m.length i t B.1 B.2.1 B.2.2.1 B.2.2.2 pr ho m ids to ov 0 0 false s=_;unfold G7;have dP:s.length≤900:=by grind
  have G8:re k (m.getD i pd).2.1 22 [(m.getD i pd).1]=some (wR 22 (m.getD i pd)):=rfl;simp only[qA,qV,ao,aa hi,ai,G8,ae,yi (show s.length≤9999 by omega),qD hi (by grind)];rw[hs]) (s:=[]) (show m.length<k by omega) rfl
 have fa:G6 k k m m.length 0 t B.1 B.2.1 B.2.2.1 B.2.2.2 pr ho m ids to ov 0 0 false []=_:=h1;rw[fa,h2,List.take_length];obtain ⟨s2, g1, g2⟩ := vB (L := fun n i (s : List yJ) => Mr k n B.1 B.1.length i t B.1 B.2.1 B.2.2.1 B.2.2.2 pr ho m ids to ov 0 0 false s) (N := B.1.length) (fun s => (t, B.1, B.2.1, B.2.2.1, B.2.2.2, pr, ho, m, ids, to, ov, 0, 0, false, s)) (fun i s => s = m.map (wR 22) ++ iY B i) (fun n s _=>by
  show G9 k _ B.1 B.1.length B.1.length t B.1 B.2.1 B.2.2.1 B.2.2.2 pr ho m ids to ov 0 0 false s=_;unfold G9;simp) (fun n i s hi hs=>by
  refine⟨_,?_,(show m.map (wR 22)++iY B i++[yl B i]=m.map (wR 22)++iY B (i+1) by rw[yGj,List.append_assoc])⟩;show G9 k _ B.1 B.1.length i t B.1 B.2.1 B.2.2.1 B.2.2.2 pr ho m ids to ov 0 0 false s=_;unfold G9;have dP:s.length≤900:=by
   rw[hs,aA,List.length_map];unfold iY;grind
  have G8:re k i 23 [(B.1.getD i ad).1]=some (yl B i):=rfl;have ho3:re k i 23 [(B.1.getD i (0,0,0)).1]=some (yl B i):=G8;simp only[qA,qV,ao,aa hi,ai,ho3,ae,yi (show s.length≤9999 by omega),qD hi (by grind)];rw[hs]) (s:=m.map (wR 22)) (show B.1.length<k by omega) (by show _=_++[];simp)
 simp_all
def vE (t:Int)(p:zI):Bool:=decide (t>p.2.2.2.2.2.2)
theorem yTw {k:Nat}(hk:200≤k){m:List zI}(hm:m.length≤100)(pa:Int)(as:List (Int×Int))(cu cl pe t:Int)(B:BT)(pr:AC)(ho:EQ)(ids:AC)(to:Int)(ov:Bool):
  Ha k k m m.length 0 pa as cu cl pe t B.1 B.2.1 B.2.2.1 B.2.2.2 pr ho m ids to ov 0 0 false [] []=some (pa,as,cu,cl,pe,t,B.1,B.2.1,B.2.2.1,B.2.2.2,pr,ho,m,ids,to,ov,0,0,false,(m.filter (vE t)).map (wR 21),m.filter (fun p=> !vE t p)):=by
 obtain ⟨s', h1, h2, h3⟩ := vB (L := fun n i (s : List yJ × List zI) => Ha k n m m.length i pa as cu cl pe t B.1 B.2.1 B.2.2.1 B.2.2.2 pr ho m ids to ov 0 0 false s.1 s.2) (N := m.length) (fun s => (pa, as, cu, cl, pe, t, B.1, B.2.1, B.2.2.1, B.2.2.2, pr, ho, m, ids, to, ov, 0, 0, false, s.1, s.2)) (fun i s => s.1 = ((m.take i).filter (vE t)).map (wR 21) ∧ s.2 = (m.take i).filter (fun p => !vE t p)) (fun n s _=>by
  show Hb k _ m m.length m.length pa as cu cl pe t B.1 B.2.1 B.2.2.1 B.2.2.2 pr ho m ids to ov 0 0 false s.1 s.2=_;unfold Hb;simp only [qV, ab (Nat.lt_irrefl _), ak]) (fun n i s hi hs=>by
  have tX:s.1.length≤900:=by
   rw[hs.1,List.length_map];have:=List.length_filter_le (vE t) (m.take i);rw[bY] at this;omega
  have nO:s.2.length≤900:=by
   rw[hs.2];have:=List.length_filter_le (fun p=> !vE t p) (m.take i);rw[bY] at this;omega
  show∃s',Hb k _ m m.length i pa as cu cl pe t B.1 B.2.1 B.2.2.1 B.2.2.2 pr ho m ids to ov 0 0 false s.1 s.2=_∧_;unfold Hb qXi;have G8:re k (m.getD i pd).2.1 21 [(m.getD i pd).1]=some (wR 21 (m.getD i pd)):=rfl;simp only[pd] at G8;simp only[qA,qV,ao,aa hi,ai,G8,ae,yi (show s.1.length≤9999 by omega),oe (show s.2.length≤9999 by omega),qD hi (show m.length<9223372036854775808 by omega)];have f1:=B6 (vE t) m i pd hi;have f2:=B6 (fun p=> !vE t p) m i pd hi;cases hb:vE t (m.getD i pd) with
  |true=>
   have bg:decide (t>(m.getD i (0,0,0,0,0,0,0)).2.2.2.2.2.2)=true:=hb;rw[bg];refine⟨(s.1++[wR 21 (m.getD i pd)],s.2),rfl,?_,?_⟩
   ·show s.1++_=_;rw[f1,hb,hs.1];simp
   ·show s.2=_;rw[f2,hb,hs.2];simp
  |false=>
   have bg:decide (t>(m.getD i (0,0,0,0,0,0,0)).2.2.2.2.2.2)=false:=hb;rw[bg];refine⟨(s.1,s.2++[m.getD i pd]),rfl,?_,?_⟩
   ·show s.1=_;rw[f1,hb,hs.1];simp
   ·show s.2++_=_;rw[f2,hb,hs.2];simp) (s:=([],[])) (show m.length<k by omega) ⟨rfl,rfl⟩
 have:=h1.trans (by rw[h2,h3,List.take_length]);exact this
structure vYg (t cl:Int) (B C:BT) (m m':List zI) (ov:Bool) (o:List yJ):Prop where
 bk:qS C
 bl:C.1.length=B.1.length
 sub:List.Sublist m' m
 over:ov=decide (t+1=cl)
 none:ov=true→m'=[]
 late:ov=false→∀p∈m',vE (t+1) p=false
 QY:∀p∈m',kZ p o=0
 iE:∀p∈m,p∉m'→kZ p o=1
 quiet:∀q:zI,(∀p∈m,p.1≠q.1)→kZ q o=0
 room:o.length+2*m'.length≤2*m.length+(if ov=true then 6 else 0)
theorem qL.not_in {l m d:List zI}(hd:qL (d++m)){p}(hp:p∈m):∀q∈d,q.1≠p.1:=fun q hq=>(List.pairwise_append.1 hd).2.2 q hq p hp
structure fZ (B C:BT):Prop where
 len:C.1.length=B.1.length
 sum:qI (fun i=>(C.1.getD i ad).1) B.1.length=qI (fun i=>(B.1.getD i ad).1) B.1.length
 cred:∀i,i<B.1.length→(C.1.getD i ad).2.1=(B.1.getD i ad).2.1
 bil:C.2.1=B.2.1
 mul:C.2.2.1=B.2.2.1
 fell:∀i,i<B.1.length→(C.1.getD i ad).1<(B.1.getD i ad).1→0≤(C.1.getD i ad).1+(C.1.getD i ad).2.1
theorem fZ.refl B:fZ B B:=⟨rfl,rfl,by simp,rfl,rfl,by simp⟩
theorem fZ.trans {B C D}(h:fZ B C)(g:fZ C D):fZ B D:=
 ⟨g.len.trans h.len,by have:=g.sum;rw[h.len] at this;exact this.trans h.sum,fun i hi=>(g.cred i (by rw[h.len];exact hi)).trans (h.cred i hi),g.bil.trans h.bil,g.mul.trans h.mul,fun i hi=>by
  have h1:=h.fell i hi;have h2:=g.fell i (by rw[h.len];exact hi);have h3:=g.cred i (by rw[h.len];exact hi);omega⟩
theorem vKe i:∀{l},(∀p∈l,0≤p.2.2.2.1)→0≤zR (gB i) l+(zR (gN i) l+zR (gR i) l)
 |[],_=>Int.le_refl _
 |p::l,h=>by
  have h1:=vKe i fun q hq=>h q (List.mem_cons_of_mem _ hq)
  have h2:=h p (by simp);have h3:0≤gB i p+(gN i p+gR i p):=by
   unfold gB gN gR;omega
  show 0≤gB i p+zR (gB i) l+(gN i p+zR (gN i) l+(gR i p+zR (gR i) l));omega
theorem aae {a a' b p p' m l}(x:uK a.length a p l a' p')(hf:xV a b m p l=true)(hl:∀q∈l,yN a.length q){i}(hi:i<a.length):
  (a'.getD i ad).1<(a.getD i ad).1→0≤(a'.getD i ad).1+(a'.getD i ad).2.1:=by
 have h1:=vKe i (l:=l) fun q hq=>by have:=(hl q hq).a1;omega
 unfold xV at hf;rw[aR] at hf;have h2:=wI.1 hf.2 i hi;unfold gY at h2;rw[x.acct i hi];grind
theorem yW3 {B}(h:qS B){l}(hf:ya B l=true){r}(hp:sS B.1 B.2.1 B.2.2.1 B.2.2.2 l r):fZ B (r.1,r.2.1,r.2.2.1,r.2.2.2.1):=by
 have hs:=(QY h hp).1;by_cases c:wD B.1.length l
 ·obtain⟨a',p',x,e⟩:=hp.1 c;cases hi:kV a' B.2.1 B.2.2.1 p' with
  |false=>rw[hi] at e;subst e;exact fZ.refl B
  |true=>
   rw[hi] at e;subst e;exact⟨x.al,hs,fun i bI=>by show(a'.getD i ad).2.1=_;rw[x.acct i bI],rfl,rfl,fun i bI=>aae x hf c.1 bI⟩
 ·rw[hp.2 c];exact fZ.refl B
theorem yTp {k}(hk:100<k){B C}(h:qS B){l}(hl:l.length≤80)(hg:iE k B l=some C):fZ B C:=by
 obtain⟨r,h1,h3⟩:=Qs hk h hl;unfold iE at hg;rw[h1] at hg;simp only at hg;cases hc:decide (r.2.2.2.2=0)&&ya B l with
 |false=>simp_all
 |true=>
  rw[hc] at hg;simp  at hg;subst hg;rw[aR] at hc;exact yW3 h hc.2 h3
theorem gZ.keptC {k}(hk:100<k){t B C l done m}(h:gZ k t B l done C m)(hb:qS B):fZ B C:=by
 induction h with
 |stop _=>exact fZ.refl _
 |@step B C D l m done p h h' ih=>
  have hg:=(Cd h).2;exact(yTp hk hb (by simp) hg).trans (ih (sY hk hb (by simp) hg).1)
theorem eg.keptC {k}(hk:100<k){t B C l done m}(h:eg k t B l done C m)(hb:qS B):fZ B C:=by
 induction h with
 |stop _=>exact fZ.refl _
 |@step B C D l m done p q h h' ih=>
  have hg:=(Q2 h).2.2.2;exact(yTp hk hb (by simp) hg).trans (ih (sY hk hb (by simp) hg).1)
theorem gZ.bk {k}(hk:100<k){t B C l done m}(h:gZ k t B l done C m)(hb:qS B):qS C:=by
 induction h with
 |stop _=>exact hb
 |step h h' ih=>exact ih (sY hk hb (by simp) (Cd h).2).1
theorem eg.bk {k}(hk:100<k){t B C l done m}(h:eg k t B l done C m)(hb:qS B):qS C:=by
 induction h with
 |stop _=>exact hb
 |step h h' ih=>exact ih (sY hk hb (by simp) (Q2 h).2.2.2).1
theorem mB.keptC {k}(hk:100<k){t B C l done m}(h:mB k t B l done C m)(hb:qS B):fZ B C:=by
 induction h with
 |stop h1 _=>exact h1.keptC hk hb
 |step h1 h2 ne h' ih=>
  have b1:=h1.bk hk hb;exact((h1.keptC hk hb).trans (h2.keptC hk b1)).trans (ih (h2.bk hk b1))
theorem vTe {k}(hk:200≤k){B}(hb:qS B){l:List zI}(hl:∀q∈l,yN B.1.length q)(bS:l.length≤64) t {C:BT}{m done:List zI}(hr:Ch k B.1 B.2.1 B.2.2.1 B.2.2.2 l t=some (C.1,C.2.1,C.2.2.1,C.2.2.2,m,done)):fZ B C:=by
 obtain⟨f,n,h,hn⟩:=Z6 hb hl bS t;have se:=yg l t;have cP:=ye (vC l t) f;have Q9:=cP.length_le;obtain⟨r,h1,h3⟩:=Qs (k:=k) (by omega) hb (l:=vJ (vC l t) f) (by omega);have g1:=qX9 (k:=k) (by omega) hb hl bS t (by omega) h h1;unfold GO at g1;rw[g1] at hr;cases c:decide (r.2.2.2.2=0) with
 |false=>
  rw[c] at hr;simp  at hr;obtain⟨e1,e2,e3,e4,_⟩:=hr;have:B=C:=by grind
  rw[←this];exact fZ.refl B
 |true=>
  have:(r.1,r.2.1,r.2.2.1,r.2.2.2.1)=C:=by grind
  rw[←this];refine yW3 hb ?_ h3;have hw:=Me (Mh (t:=t) hl) (by omega) f;have hs:=Z1.1 h.final;unfold ya xV;rw[BX.2 hw.1,aa hw.2];simp;rw[wI];intro j hj;have:=hs j hj;unfold uW at this;simp_all
theorem vL3 {C D:BT}{m n d e:List zI}(h:(C.1,C.2.1,C.2.2.1,C.2.2.2,m,d)=(D.1,D.2.1,D.2.2.1,D.2.2.2,n,e)):C=D∧m=n∧d=e:=by
 grind
theorem yS2 {k}(hk:200≤k){B}(hb:qS B){l}(hd:qL l)(hl:∀q∈l,yN B.1.length q)(bS:l.length≤64) t all {X:BT}{mx dx:List zI}
  (hr:yh k B.1 B.2.1 B.2.2.1 B.2.2.2 l t all=some (X.1,X.2.1,X.2.2.1,X.2.2.2,mx,dx)):fZ B X:=by
 obtain⟨C,m,d,f1,f2,f3,f4,f5⟩:=GZ hk hb hd (by omega) t;have q1:=f2.keptC (by omega) hb;have p1:=f2.perm hd;have l1:=p1.length_eq;rw[aA] at l1;unfold yh at hr;rw[f1] at hr;simp only[ae] at hr;cases all with
 |false=>
  grind
 |true=>
  have hm:qL m:=List.Pairwise.sublist f5 hd;have Pc:∀q∈m,yN C.1.length q:=fun q hq=>by grind
  obtain⟨D,n,x,g1,g2,g3,g4,g5,g6⟩:=qZx hk f3 hm Pc (by omega) t;have q2:=vTe hk f3 Pc (by omega) t g1;have l2:=g5.length_eq;rw[aA] at l2;rw[g1] at hr;simp only[ae] at hr;cases x with
  |nil=>
   grind
  |cons p x=>
   have e1:decide ((((p::x).length:Nat):Int)=0)=false:=by grind
   rw[e1] at hr;simp only[ak] at hr;have hn:qL n:=List.Pairwise.sublist g4 hm;obtain⟨E,o,y,k1,k2,k3,k4,k5⟩:=GZ hk g2 hn (by omega) t;have q3:=k2.keptC (by omega) g2;have p3:=k2.perm hn;have l3:=p3.length_eq;rw[aA] at l3;have r1:zO (d.length+(p::x).length) 56=true:=by grind
   have r2:zO ((d++(p::x)).length+y.length) 56=true:=by grind
   rw[k1] at hr;simp only[ae,r1,r2,ai] at hr;have sg:some (E.1,E.2.1,E.2.2.1,E.2.2.2,o,d++(p::x)++y)=some (X.1,X.2.1,X.2.2.1,X.2.2.2,mx,dx):=hr;rw[←(vL3 (Option.some.inj sg)).1];exact(q1.trans q2).trans q3
end Go.Ab.Gi
