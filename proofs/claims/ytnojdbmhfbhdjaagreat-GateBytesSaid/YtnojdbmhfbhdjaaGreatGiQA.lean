/- Plain proofs, part 0. -/
import Derived.Test.YtnojdbmhfbhdjaaGreatGiAbC
import Derived.Test.YtnojdbmhfbhdjaaGreatGiXS
set_option linter.unusedVariables false
set_option linter.unusedSimpArgs false
set_option maxRecDepth 100000
set_option linter.unusedSectionVars false
namespace Go.Ab
theorem aa {p:Prop}[Decidable p](h:p):decide p=true:=decide_eq_true h
theorem ab {p:Prop}[Decidable p](h:¬p):decide p=false:=decide_eq_false h
theorem uz {p:Prop}[Decidable p](h:decide p=true):p:=of_decide_eq_true h
theorem gZ {p:Prop}[Decidable p](h:decide p=false):¬p:=of_decide_eq_false h
theorem aZ {p:Prop}[Decidable p]:(decide p=true)=p:=decide_eq_true_eq
theorem ae {α β:Type}(a:α)(f:α→Option β):(some a).bind f=f a:=rfl
theorem ai {α:Type}(a b:α):cond true a b=a:=rfl
theorem ak {α:Type}(a b:α):cond false a b=b:=rfl
theorem ao (n:Nat):(n:Int).toNat=n:=rfl
theorem aR (a b:Bool):((a&&b)=true)=(a=true∧b=true):=Bool.and_eq_true a b
theorem az:(!true)=false:=rfl
theorem bO:(!false)=true:=rfl
theorem ay {α:Type}{a b:List α}:(a++b).length=a.length+b.length:=List.length_append
theorem bY {α:Type}{l:List α}{i:Nat}{a:α}:l.getD i a=l[i]?.getD a:=List.getD_eq_getElem?_getD
theorem bP {α:Type}{i:Nat}{l:List α}:(l.take i).length=min i l.length:=List.length_take
end Go.Ab
namespace Go.Ab
theorem zO {x:Int}(h1:-9223372036854775808≤x)(h2:x<9223372036854775808):zA x=x:=by
 unfold zA IntKind.wrap;simp only[IntKind.bits,IntKind.signed,Bool.true_and];by_cases h:x%2^64≥2^(64-1)
 ·rw[if_pos (by simpa using h)];omega
 ·rw[if_neg (by simpa using h)];omega
theorem XM (x:Int):-9223372036854775808≤zA x:=by
 unfold zA IntKind.wrap;simp only[IntKind.bits,IntKind.signed,Bool.true_and];by_cases h:x%2^64≥2^(64-1)
 ·rw[if_pos (by simpa using h)];omega
 ·rw[if_neg (by simpa using h)];omega
theorem XN (x:Int):zA x<9223372036854775808:=by
 unfold zA IntKind.wrap;simp only[IntKind.bits,IntKind.signed,Bool.true_and];by_cases h:x%2^64≥2^(64-1)
 ·rw[if_pos (by simpa using h)];omega
 ·rw[if_neg (by simpa using h)];omega
theorem qB {i N:Nat}(h:i<N)(hN:N<9223372036854775808):zA ((i:Int)+1)=((i+1:Nat):Int):=by
 rw[zO (by omega) (by omega)];rfl
theorem BI {n}(h:(Lit.int .i64 n).wf=true):-9223372036854775808≤n∧n<9223372036854775808:=by
 simp[Lit.wf,IntKind.min,IntKind.bits] at h;grind
theorem zY (i n:Nat):zB (i:Int) n=decide (i<n):=by
 unfold zB;simp
theorem wU {i:Int}{n:Nat}(h0:0≤i)(h1:i<n):zB i n=true:=by
 unfold zB;simp;omega
theorem qE {n b}(h:n*b≤140737488355328)(h':n≤140737488355328):zM n b=true:=by
 simp_all
theorem qS (i n:Nat):decide ((i:Int)<(n:Int))=decide (i<n):=by simp
theorem sG (i n:Nat):decide ((i:Int)=(n:Int))=decide (i=n):=by
 by_cases h:i=n
 ·subst h;simp
 ·rw[ab h,ab (by omega)]
def zZ (p:Nat→Bool):Nat→Nat→Bool
 |0,_=>true
 |c+1,i=>p i&&zZ p c (i+1)
theorem vAs {p:Nat→Bool}:∀{c i:Nat},zZ p c i=true↔∀j,i≤j→j<i+c→p j=true
 |0,i=>by simp[zZ];intro j h1 h2;omega
 |c+1,i=>by
  simp only[zZ,aR,vAs (c:=c)];constructor
  ·rintro⟨h1,h2⟩ j h3 h4
   by_cases e:j=i
   ·subst e;exact h1
   ·exact h2 j (by omega) (by omega)
  ·intro h;exact⟨h i (Nat.le_refl i) (by omega),fun j h1 h2=>h j (by omega) (by omega)⟩
theorem wI {p c}:zZ p c 0=true↔∀j,j<c→p j=true:=by
 rw[vAs];simp
theorem XO {X:Type}{L:Nat→Int→Option X}{N:Nat} ok a b (bM:∀n,L (n+1) (N:Int)=some a)
  (aI:∀n i,i<N→L (n+1) (i:Int)=bif ok i then L n ((i+1:Nat):Int) else some b):∀c i n,i+c=N→c<n→L n (i:Int)=some (bif zZ ok c i then a else b)
 |0,i,n,h,hn=>by
  obtain⟨n,rfl⟩:∃m,n=m+1:=⟨n-1,by omega⟩;have:i=N:=by omega
  subst this;exact bM n
 |c+1,i,n,h,hn=>by
  obtain⟨n,rfl⟩:∃m,n=m+1:=⟨n-1,by omega⟩;rw[aI n i (by omega)];unfold zZ;cases ok i with
  |false=>rfl
  |true=>
   exact XO ok a b bM aI c (i+1) n (by omega) (by omega)
theorem fk {X:Type}{L:Nat→Int→Option X}{N:Nat} ok a b (bM:∀n,L (n+1) (N:Int)=some a)
  (aI:∀n i,i<N→L (n+1) (i:Int)=bif ok i then L n ((i+1:Nat):Int) else some b) {n} (hn:N<n):L n 0=some (bif zZ ok N 0 then a else b):=
 XO ok a b bM aI N 0 n (by omega) hn
theorem vEh {L:Nat→Int→Option (Unit⊕Int)}{N:Nat}(bad:Nat→Bool)(bM:∀n,L (n+1) (N:Int)=some (.inl ()))
  (aI:∀n i,i<N→L (n+1) (i:Int)=bif bad i then some (.inr (i:Int)) else L n ((i+1:Nat):Int)):
  ∀c i n,i+c=N→c<n→(zZ (fun j=> !bad j) c i=true∧L n (i:Int)=some (.inl ()))∨∃x:Nat,i≤x∧x<N∧bad x=true∧(∀j,i≤j→j<x→bad j=false)∧zZ (fun j=> !bad j) c i=false∧L n (i:Int)=some (.inr (x:Int))
 |0,i,n,h,hn=>by
  obtain⟨n,rfl⟩:∃m,n=m+1:=⟨n-1,by omega⟩;have:i=N:=by omega
  subst this;exact .inl ⟨rfl,bM n⟩
 |c+1,i,n,h,hn=>by
  obtain⟨n,rfl⟩:∃m,n=m+1:=⟨n-1,by omega⟩;rw[aI n i (by omega)];unfold zZ;cases hb:bad i with
  |true=>exact .inr ⟨i,Nat.le_refl i,by omega,hb,fun j h1 h2=>absurd h1 (by omega),rfl,rfl⟩
  |false=>
   simp only[ak,bO,Bool.true_and];rcases vEh bad bM aI c (i+1) n (by omega) (by omega) with h1|⟨x,x1,x2,x3,x4,x5,x6⟩
   ·exact .inl h1
   ·refine .inr ⟨x,by omega,x2,x3,fun j h1 h2=>?_,x5,x6⟩;by_cases e:j=i
    ·subst e;exact hb
    ·exact x4 j (by omega) h2
theorem qg {L:Nat→Int→Option (Unit⊕Int)}{N:Nat}(bad:Nat→Bool)(bM:∀n,L (n+1) (N:Int)=some (.inl ()))
  (aI:∀n i,i<N→L (n+1) (i:Int)=bif bad i then some (.inr (i:Int)) else L n ((i+1:Nat):Int)) {n:Nat} (hn:N<n):
  ∃x:Unit⊕Int,L n 0=some x∧decide ((match x with|.inl _=>(-1:Int)|.inr y=>y)≥0)= !zZ (fun j=> !bad j) N 0:=by
 rcases vEh bad bM aI N 0 n (by omega) hn with⟨h1,h2⟩|⟨x,_,_,_,_,h5,h6⟩
 ·exact⟨_,h2,by rw[h1];rfl⟩
 ·exact⟨_,h6,by rw[h5];simp⟩
theorem yWl {S X:Type}{L:Nat→Int→S→Option X}{N}(e:S→X)(inv:Nat→S→Prop)(bM:∀n s,inv N s→L (n+1) (N:Int) s=some (e s))
  (aI:∀n i s,i<N→inv i s→∃s',L (n+1) (i:Int) s=L n ((i+1:Nat):Int) s'∧inv (i+1) s'):
  ∀c i n s,i+c=N→c<n→inv i s→∃s',L n (i:Int) s=some (e s')∧inv N s'
 |0,i,n,s,h,hn,hs=>by
  obtain⟨n,rfl⟩:∃m,n=m+1:=⟨n-1,by omega⟩;grind
 |c+1,i,n,s,h,hn,hs=>by
  obtain⟨n,rfl⟩:∃m,n=m+1:=⟨n-1,by omega⟩;obtain⟨s',h1,h2⟩:=aI n i s (by omega) hs;rw[h1];exact yWl e inv bM aI c (i+1) n s' (by omega) (by omega) h2
theorem yZ {S X:Type}{L:Nat→Int→S→Option X}{N}(e:S→X)(inv:Nat→S→Prop)(bM:∀n s,inv N s→L (n+1) (N:Int) s=some (e s))
 (aI:∀n i s,i<N→inv i s→∃s',L (n+1) (i:Int) s=L n ((i+1:Nat):Int) s'∧inv (i+1) s') {n s} (hn:N<n) (hs:inv 0 s):
 ∃s',L n 0 s=some (e s')∧inv N s':=yWl e inv bM aI N 0 n s (by omega) hn hs
def zP {α:Type}(g:α→Int):List α→Int
 |[]=>0
 |p::l=>g p+zP g l
theorem kO {α} g:∀(l m:List α),zP g (l++m)=zP g l+zP g m
 |[],m=>by simp[zP]
 |p::l,m=>by
  show g p+zP g (l++m)=g p+zP g l+zP g m;rw[kO g l m];omega
theorem BJ {α g A}:∀{l:List α},(∀p∈l,-A≤g p∧g p≤A)→-(l.length*A)≤zP g l∧zP g l≤l.length*A
 |[],_=>by simp[zP]
 |p::l,h=>by
  have h1:=h p (by simp);have h2:=BJ (l:=l) fun q hq=>h q (by grind)
  have e:((p::l).length:Int)*A=(l.length:Int)*A+A:=by
   rw[List.length_cons,Int.natCast_add,Int.add_mul];simp
  show-_≤g p+zP g l∧g p+zP g l≤_;omega
theorem xD {α g}:∀{l:List α},(∀p∈l,0≤g p)→0≤zP g l
 |[],_=>by simp[zP]
 |p::l,h=>by
  have h1:=h p (by simp);have h2:=xD (l:=l) fun q hq=>h q (by grind)
  show 0≤g p+zP g l;omega
theorem yRd {α} g h:∀(l:List α),zP (fun p=>g p+h p) l=zP g l+zP h l
 |[]=>rfl
 |p::l=>by
  show g p+h p+zP _ l=g p+zP g l+(h p+zP h l);rw[yRd g h l];omega
theorem XP {α} g h:∀(l:List α),zP (fun p=>g p-h p) l=zP g l-zP h l
 |[]=>rfl
 |p::l=>by
  show g p-h p+zP _ l=g p+zP g l-(h p+zP h l);rw[XP g h l];omega
theorem Pt {α g h}:∀{l:List α},(∀p∈l,g p=h p)→zP g l=zP h l
 |[],_=>rfl
 |p::l,e=>by
  show g p+zP g l=h p+zP h l;rw[e p (by simp),Pt fun q hq=>e q (by grind)]
def qG (g:Nat→Int):Nat→Int
 |0=>0
 |n+1=>qG g n+g n
theorem EJ g h:∀n,qG (fun j=>g j+h j) n=qG g n+qG h n
 |0=>rfl
 |n+1=>by
  show qG _ n+(g n+h n)=qG g n+g n+(qG h n+h n);rw[EJ g h n];omega
theorem sH {g h}:∀{n},(∀j,j<n→g j=h j)→qG g n=qG h n
 |0,_=>rfl
 |n+1,e=>by
  show qG g n+g n=qG h n+h n;rw[sH fun j hj=>e j (by omega),e n (by simp)]
theorem BK (c:Int)(t:Nat):∀n,qG (fun j=>if j=t then c else 0) n=if t<n then c else 0
 |0=>rfl
 |n+1=>by
  show qG _ n+(if n=t then c else 0)=_;rw[BK c t n];by_cases h:t<n
  ·rw[if_pos h,if_neg (by omega),if_pos (by omega)];omega
  ·by_cases h':n=t
   ·rw[if_neg h,if_pos h',if_pos (by omega)];omega
   ·rw[if_neg h,if_neg h',if_neg (by omega)];omega
theorem XQ:∀n,qG (fun _=>0) n=0
 |0=>rfl
 |n+1=>by show qG _ n+0=0;rw[XQ n];rfl
theorem xE {g A}(h:∀j,-A≤g j∧g j≤A):∀n:Nat,-(n*A)≤qG g n∧qG g n≤n*A
 |0=>by simp[qG]
 |n+1=>by
  have h1:=h n;have h2:=xE h n;have e:((n+1:Nat):Int)*A=(n:Int)*A+A:=by
   grind
  show-_≤qG g n+g n∧qG g n+g n≤_;omega
theorem Pu {α}(g:Nat→α→Int) n:∀l:List α,qG (fun j=>zP (g j) l) n=zP (fun p=>qG (fun j=>g j p) n) l
 |[]=>XQ n
 |p::l=>by
  show qG (fun j=>g j p+zP (g j) l) n=qG (fun j=>g j p) n+zP _ l;rw[EJ,Pu g n l]
theorem jY {α:Type}{l:List α}{i d}(h:i<l.length):l.getD i d∈l:=by
 simp_all
theorem fG {α:Type}(l:List α) i d (h:i<l.length):l.take i++[l.getD i d]=l.take (i+1):=by
 simp_all
theorem fH {α:Type}(l:List α)(i j:Nat)(a d:α):(l.set i a).getD j d=if i=j∧i<l.length then a else l.getD j d:=by
 rw[bY,bY,List.getElem?_set];by_cases h:i=j
 ·subst h;by_cases h':i<l.length<;>simp[h']
 ·simp[h]
theorem EK {α:Type}{l m:List α} d (hl:l.length=m.length)(h:∀i,i<l.length→l.getD i d=m.getD i d):l=m:=by
 apply List.ext_getElem hl;simp_all
theorem vCo m (hm:m≤62) x:yP .i64 x (2^m-1)=x%2^m:=by
 unfold yP tG;have hp:(2:Int)^m=((2^m:Nat):Int):=by rfl
 have hle:2^m≤2^62:=Nat.pow_le_pow_right (by omega) hm;have lX:0<2^m:=by grind
 have e1:(BitVec.ofInt IntKind.i64.bits x&&&BitVec.ofInt IntKind.i64.bits (2^m-1)).toNat=(x%2^m).toNat:=by
  rw[BitVec.toNat_and,BitVec.toNat_ofInt,BitVec.toNat_ofInt];have e2:((2:Int)^m-1)%((2^IntKind.i64.bits:Nat):Int)=((2^m-1:Nat):Int):=by
   rw[hp];have:((2^m:Nat):Int)-1=((2^m-1:Nat):Int):=by omega
   rw[this];apply Int.emod_eq_of_lt (by omega);show((2^m-1:Nat):Int)<((2^64:Nat):Int);omega
  rw[e2,ao,Nat.and_two_pow_sub_one_eq_mod];have hx:0≤x%((2^IntKind.i64.bits:Nat):Int):=by omega
  have e3:x%2^m=(x%((2^IntKind.i64.bits:Nat):Int))%((2^m:Nat):Int):=by
   rw[hp,Int.emod_emod_of_dvd];show((2^m:Nat):Int)∣((2^64:Nat):Int);exact Int.natCast_dvd_natCast.2 (Nat.pow_dvd_pow 2 (by omega))
  grind
 rw[e1];have h0:0≤x%2^m:=by omega
 rw[Int.toNat_of_nonneg h0];exact zO (by omega) (by omega)
end Go.Ab
namespace Go.Ab.Gi
open Go.Ab
def pg (s c:Int):Int:=wR .u64 (shl .u64 s 8) (IntKind.wrap .u64 c)
def fU (b:AC):Int:=zA (b.foldl pg 0)
def ez:Nat→AC→AC
 |0,_=>[]
 |m+1,b=>fU (b.take 8)::ez m (b.drop 8)
theorem Pv:∀m b,(ez m b).length=m
 |0,_=>rfl
 |m+1,b=>by simp[ez,Pv m]
theorem yPh:∀m b,ez (m+1) b=ez m b++[fU ((b.drop (8*m)).take 8)]
 |0,b=>by rfl
 |m+1,b=>by
  have h:=yPh m (b.drop 8);rw[show ez (m+1+1) b=fU (b.take 8)::ez (m+1) (b.drop 8) from rfl,h];rw[List.drop_drop,show 8+8*m=8*(m+1) by omega];rfl
theorem yJ5 {x:AC}{i}(h:i<x.length) s:(x.take (i+1)).foldl pg s=pg ((x.take i).foldl pg s) (x.getD i 0):=by
 rw[←fG x i 0 h,List.foldl_append];rfl
theorem vXw {k}(hk:9≤k) s0 x r0 (hx:x.length=8):EL k k s0 0 x 8 0 r0=some (s0,x.foldl pg 0,r0):=by
 obtain ⟨s, h1, h2⟩ := yZ (L := fun n i (s : Int) => EL k n s0 s x 8 i r0) (N := 8) (fun s => (s0, s, r0)) (fun i s => s = (x.take i).foldl pg 0) (fun n s _ => rfl) (fun n i s hi hs=>by
  refine⟨pg s (x.getD i 0),?_,by rw[yJ5 (by omega),hs]⟩;show Pw k (EL k n) s0 s x 8 (i:Int) r0=_;unfold Pw;rw[aa (by grind),ai,wU (by omega) (by omega),ai,qB (N:=8) hi (by omega),ao];rfl) (n:=k) (s:=0) (by omega) rfl
 grind
theorem yP6 {k}(hk:9≤k):∀m n b r,b.length=8*m→m<n→r.length+m≤17592186044416→EM k n b r=some (r++ez m b)
 |0,n,b,r,hb,hn,_=>by
  obtain⟨n,rfl⟩:∃x,n=x+1:=⟨n-1,by omega⟩;show EN k (EM k n) b r=_;unfold EN;rw[ab (by omega),ak];simp[ez]
 |m+1,n,b,r,hb,hn,hr=>by
  obtain⟨n,rfl⟩:∃x,n=x+1:=⟨n-1,by omega⟩;show EN k (EM k n) b r=_;unfold EN;have ht:(b.take 8).length=8:=by grind
  have e8:((b.take 8).length:Int)=8:=by omega
  rw[aa (by grind),ai,aa (by grind),ai,e8,vXw hk _ _ _ ht,ae];dsimp only;rw[qE (by omega) (by omega),ai,aa (by grind),ai];rw[yP6 hk m n _ _ (by grind) (by omega) (by grind)];rw[List.append_assoc];rfl
theorem yLy (n:Nat):Int.tmod (n:Int) 8=((n%8:Nat):Int):=rfl
def eQ (b:AC):AC×Int:=if b.length%8=0 then(ez (b.length/8) b,0) else([],2)
theorem XR {k:Nat}{b:AC}(hk:9≤k)(hb:b.length<8*k)(bg:b.length≤140737488355328):sJ k b=some (eQ b):=by
 unfold sJ eQ;rw[yLy];by_cases h:b.length%8=0
 ·rw[if_pos h,aa (by omega),yP6 hk (b.length/8) k b [] (by omega) (by omega) (by simp;omega)];rfl
 ·rw[if_neg h,ab (by omega)];rfl
theorem yVl {k}(hk:9≤k) x (hx:x.length=8):KA k x=some (fU x):=by
 unfold KA;obtain ⟨s, h1, h2⟩ := yZ (L := fun n i (s : Int) => KB k n x s i) (N := 8) (fun s => s) (fun i s => s = (x.take i).foldl pg 0) (fun n s _ => rfl) (fun n i s hi hs=>by
  refine⟨pg s (x.getD i 0),?_,by rw[yJ5 (by omega),hs]⟩;show Px k (KB k n) x s (i:Int)=_;unfold Px;rw[aa (by grind),ai,wU (by omega) (by omega),ai,qB (N:=8) hi (by omega),ao];rfl) (n:=k) (s:=0) (by omega) rfl
 rw[List.take_of_length_le (by omega)] at h2;subst h2;rw[h1];rfl
theorem vIs {k}(hk:9≤k) b M (hM:b.length=8*M)(hb:M≤17592186044416):∀m n j,j+m=M→m<n→BL k n b ((8*j:Nat):Int) (ez j b)=some (ez M b)
 |0,n,j,hj,hn=>by
  obtain⟨n,rfl⟩:∃x,n=x+1:=⟨n-1,by omega⟩;show EO k (BL k n) b _ _=_;unfold EO;simp_all
 |m+1,n,j,hj,hn=>by
  obtain⟨n,rfl⟩:∃x,n=x+1:=⟨n-1,by omega⟩;show EO k (BL k n) b _ _=_;unfold EO;have ew:zA (((8*j:Nat):Int)+8)=((8*(j+1):Nat):Int):=by rw[zO (by omega) (by omega)];omega
  rw[ew,aa (by grind),ai,aa (by grind),aa (by grind),
   aa (by grind),ao,ao,show 8*(j+1)-8*j=8 by omega]
  have hl:(qM b (8*j) 8).length=8:=by simp[qM];omega
  rw[show(true&&true&&true)=true from rfl,ai,yVl hk _ hl,ae];rw[qE (by rw[Pv];omega) (by rw[Pv];omega),ai];rw[show ez j b++[fU (qM b (8*j) 8)]=ez (j+1) b from(yPh j b).symm];exact vIs hk b M hM hb m n (j+1) (by omega) (by omega)
theorem vC8 {k:Nat}{b:AC}(hk:9≤k)(hb:b.length<8*k)(bg:b.length≤140737488355328):xF k b=some (eQ b):=by
 unfold xF eQ;rw[yLy];by_cases h:b.length%8=0
 ·rw[if_pos h,aa (by omega)];have:=vIs hk b (b.length/8) (by omega) (by omega) (b.length/8) k 0 (by omega) (by omega);show(BL k k b ((8*0:Nat):Int) (ez 0 b)).bind _=_;rw[this];rfl
 ·rw[if_neg h,ab (by omega)];rfl
def yWv:AC:=[(-1),6,1,2,2,2,1,1,2,0,2,2,2,0,0,0,1,5,4,1,1,1,1,1]
def yG (x:Int):Int:=if 0≤x∧x<24 then yWv.getD x.toNat 0 else-1
theorem KC (k:Nat)(x:Int):BM k x=some (yG x):=by
 unfold BM yG;by_cases h:x<0
 ·rw[aa h,if_neg (by omega)];rfl
 ·rw[ab h,ak];by_cases h2:x≥24
  ·rw[aa h2,if_neg (by omega)];rfl
  ·rw[ab h2,ak,wU (by omega) (by omega),ai,if_pos (by omega)];rfl
theorem KD (k:Nat)(x:Int):uA k x=some (yG x):=by
 by_cases h:0≤x∧x<24
 ·obtain⟨n,rfl⟩:∃n:Nat,x=n:=⟨x.toNat,by omega⟩;have hn:n<24:=by omega
  have:∀n:Nat,n<24→uA 0 (n:Int)=some (yG (n:Int)):=by decide
  exact this n hn
 ·have e:yG x= -1:=by unfold yG;rw[if_neg h]
  rw[e];unfold uA;have ne:∀c:Int,0≤c→c<24→decide (x=c)=false:=fun c h1 h2=>ab (by omega)
  rw[ne 9 (by omega) (by omega),ne 13 (by omega) (by omega),ne 14 (by omega) (by omega),ne 15 (by omega) (by omega),ne 2 (by omega) (by omega),ne 6 (by omega) (by omega),ne 7 (by omega) (by omega),ne 16 (by omega) (by omega),
   ne 19 (by omega) (by omega),ne 20 (by omega) (by omega),ne 21 (by omega) (by omega),ne 22 (by omega) (by omega),ne 23 (by omega) (by omega),ne 3 (by omega) (by omega),ne 4 (by omega) (by omega),ne 5 (by omega) (by omega),ne 8 (by omega) (by omega),
   ne 10 (by omega) (by omega),ne 11 (by omega) (by omega),ne 12 (by omega) (by omega),ne 18 (by omega) (by omega),ne 17 (by omega) (by omega),ne 1 (by omega) (by omega)]
  rfl
def lA (b:AC):zD×Int:=
 if b=[] then((0,0,0,0,0,0,0),2)
 else if(eQ (b.drop 1)).2≠0∨((eQ (b.drop 1)).1.length:Int)≠yG (zA (b.getD 0 0)) then((0,0,0,0,0,0,0),2)
 else((zA (b.getD 0 0),(eQ (b.drop 1)).1.getD 0 0,(eQ (b.drop 1)).1.getD 1 0,(eQ (b.drop 1)).1.getD 2 0,(eQ (b.drop 1)).1.getD 3 0,(eQ (b.drop 1)).1.getD 4 0,(eQ (b.drop 1)).1.getD 5 0),0)
theorem vOr (l:AC)(i:Nat):(bif Nat.blt i l.length then l.getD i 0 else 0)=l.getD i 0:=by
 by_cases h:i<l.length
 ·rw[show Nat.blt i l.length=true by simp[Nat.blt_eq,h]];rfl
 ·rw[show Nat.blt i l.length=false by
   cases e:Nat.blt i l.length with
   |false=>rfl
   |true=>rw[Nat.blt_eq] at e;omega]
  rw[bY,List.getElem?_eq_none (by omega)];rfl
theorem vDn {k:Nat}{b:AC}(hk:9≤k)(hb:b.length≤8*k)(bg:b.length≤140737488355328):BN k b=some (lA b):=by
 unfold BN lA;cases b with
 |nil=>rfl
 |cons c l=>
  rw[if_neg (by simp)];have e0:((c::l).length:Int)=(l.length:Int)+1:=by simp
  rw[ab (by omega),ak,aa (show(1:Int)≤((c::l).length:Int) by omega),ai,XR hk (by simp at hb⊢;omega) (by simp at bg⊢;omega),ae];by_cases h:(eQ (List.drop 1 (c::l))).2=0
  ·rw[aa h,wU (by omega) (by simp),KD];simp only[az,ak,ai,ae];by_cases h2:((eQ (List.drop 1 (c::l))).1.length:Int)=yG (zA ((c::l).getD 0 0))
   ·rw[aa h2,if_neg (fun hh=>hh.elim (fun e=>e h) fun e=>e h2)];simp only[az,ak,vOr]
   ·rw[ab h2,if_pos (.inr h2)];rfl
  ·rw[ab h,if_pos (.inl h)];rfl
theorem xG (x:Int):yG x≤6:=by
 unfold yG;split
 ·rename_i h;obtain⟨n,rfl⟩:∃n:Nat,x=n:=⟨x.toNat,by omega⟩;have:∀n:Nat,n<24→yWv.getD n 0≤6:=by decide
  exact this n (by omega)
 ·omega
theorem vMt k m (b0:zD) x l (hl:l.length≤6):
  Pz k (m+7) 0 b0 (x,0,0,0,0,0,0) l=some (b0,(x,l.getD 0 0,l.getD 1 0,l.getD 2 0,l.getD 3 0,l.getD 4 0,l.getD 5 0)):=by
 match l,hl with
 |[],_
  |[_],_
  |[_,_],_
  |[_,_,_],_
  |[_,_,_,_],_
  |[_,_,_,_,_],_
  |[_,_,_,_,_,_],_=>rfl
theorem yT9 {k:Nat}{b:AC}(hk:9≤k)(hb:b.length≤8*k)(bg:b.length≤140737488355328):EP k b=some (lA b):=by
 unfold EP lA;cases b with
 |nil=>rfl
 |cons c l=>
  rw[if_neg (by simp)];have e0:((c::l).length:Int)=(l.length:Int)+1:=by simp
  rw[ab (by omega),ak,wU (by omega) (by simp),ai,aa (show(1:Int)≤((c::l).length:Int) by omega),ai,vC8 hk (by simp at hb⊢;omega) (by simp at bg⊢;omega),ae];by_cases h:(eQ (List.drop 1 (c::l))).2=0
  ·rw[aa h,KC];simp only[az,ak,ae];by_cases h2:((eQ (List.drop 1 (c::l))).1.length:Int)=yG (zA ((c::l).getD 0 0))
   ·rw[aa h2,if_neg (fun hh=>hh.elim (fun e=>e h) fun e=>e h2)];have hm:=xG (zA ((c::l).getD 0 0));obtain⟨m,rfl⟩:∃m,k=m+7:=⟨k-7,by omega⟩;simp only[az,ak];rw[vMt _ _ _ _ _ (by omega)];rfl
   ·rw[ab h2,if_pos (.inr h2)];rfl
  ·rw[ab h,if_pos (.inl h)];rfl
abbrev PA:Type:=Int×Int×AC×Int×Int
abbrev ag2:Type:=Int×List (Int×Int)×Int×Int×Int
abbrev xH:Type:=Int×List (Int×Int×Int)×EQ×AC×EQ×AC×EQ×List (Int×Int×Int×Int×Int×Int×Int)×AC×Int×Bool
abbrev sK:Type:=Int×List (Int×Int)×Int×Int×Int×Int×List (Int×Int×Int)×EQ×AC×EQ×AC×EQ×List (Int×Int×Int×Int×Int×Int×Int)×AC×Int×Bool×Int×Bool
abbrev ag3:Type:=Int×Int×Bool×Bool
def d0:PA:=(0,0,[],0,0)
abbrev gE (ro:Int)(x:AC)(sx:Int)(y:AC)(sy cA cK op:Int):wJ:=(ro,x,sx,y,sy,cA,cK,false,false,op)
section
variable {k:Nat} {ro sx sy cA cK op:Int} {x y b:AC}
theorem XT (h:(b.length:Int)≤zA (ro-(x.length:Int)))(hr:x.length+b.length≤1000000):mn k (gE ro x sx y sy cA cK op) 0 b=some (0,gE ro (x++b) sx y sy cA cK (zA (op+1))):=by
 show(bif decide ((b.length:Int)>zA (ro-(x.length:Int))) then _ else(bif zM (x.length+b.length) 1 then _ else none))=_;rw[ab (by omega),ak,qE (by omega) (by omega)];rfl
theorem XU (h:(b.length:Int)≤zA (ro-(y.length:Int)))(hr:y.length+b.length≤1000000):mn k (gE ro x sx y sy cA cK op) 1 b=some (0,gE ro x sx (y++b) sy cA cK (zA (op+1))):=by
 show(bif decide ((b.length:Int)>zA (ro-(y.length:Int))) then _ else(bif zM (y.length+b.length) 1 then _ else none))=_;rw[ab (by omega),ak,qE (by omega) (by omega)];rfl
theorem vT1:nW k (gE ro x sx y sy cA cK op)=some (0,gE ro x (x.length:Int) y (y.length:Int) cA cK (zA (op+1))):=rfl
end
def vE (n:Int)(i:Nat):Int:=IntKind.wrap .u8 (shr .i64 n (8*(i:Int)))
def wZ (n:Int):AC:=[vE n 7,vE n 6,vE n 5,vE n 4,vE n 3,vE n 2,vE n 1,vE n 0]
def vN (l:AC):AC:=l.flatMap wZ
theorem nX:∀l,(vN l).length=8*l.length
 |[]=>rfl
 |n::l=>by
  have:=nX l;simp[vN] at this⊢;rw[this];simp[wZ];omega
theorem XV {k n} v (i:Nat)(hi:i≤7) aP cL bm r (hr:r.length≤1000000000):
  xI k (n+1) v (i:Int) aP cL bm r=xI k n v ((i:Int)-1) aP cL bm (r++[vE v i]):=by
 show PB k (xI k n) v (i:Int) aP cL bm r=_;unfold PB;have e8:zA (8*(i:Int))=8*(i:Int):=zO (by omega) (by omega);rw[aa (by simp),ai,e8,ab (by omega),bO,ai,qE (by omega) (by omega),ai,zO (by omega) (by omega)];rfl
theorem vOu {k}(hk:9≤k) v aP cL bm r (hr:r.length≤100000000):
  xI k k v 7 aP cL bm r=some (aP,cL,bm,r++wZ v):=by
 have gen:∀m,xI k (m+9) v 7 aP cL bm r=some (aP,cL,bm,r++wZ v):=fun m=>by
  have h:=fun n i hi r' rZ=>XV (k:=k) (n:=n) v i hi aP cL bm r' rZ
  have h7:=h (m+8) 7 (by omega) r (by omega);have h6:=h (m+7) 6 (by omega) (r++[vE v 7]) (by grind);have h5:=h (m+6) 5 (by omega) ((r++[vE v 7])++[vE v 6]) (by grind);have h4:=h (m+5) 4 (by omega) (((r++[vE v 7])++[vE v 6])++[vE v 5]) (by grind);have h3:=h (m+4) 3 (by omega) ((((r++[vE v 7])++[vE v 6])++[vE v 5])++[vE v 4]) (by grind);have h2:=h (m+3) 2 (by omega) (((((r++[vE v 7])++[vE v 6])++[vE v 5])++[vE v 4])++[vE v 3]) (by grind);have h1:=h (m+2) 1 (by omega) ((((((r++[vE v 7])++[vE v 6])++[vE v 5])++[vE v 4])++[vE v 3])++[vE v 2]) (by simp;omega);have h0:=h (m+1) 0 (by omega) (((((((r++[vE v 7])++[vE v 6])++[vE v 5])++[vE v 4])++[vE v 3])++[vE v 2])++[vE v 1]) (by simp;omega);refine(h7.trans (h6.trans (h5.trans (h4.trans (h3.trans (h2.trans (h1.trans (h0.trans ?_))))))));show some (aP,cL,bm,_)=_;simp only[List.append_assoc,List.cons_append,List.nil_append];rfl
 obtain⟨m,rfl⟩:∃m,k=m+9:=⟨k-9,by omega⟩;exact gen m
theorem yIy {k}(hk:9≤k) l (hl:l.length≤1000000):∀(m n i:Nat),i+m=l.length→m<n→BO k n l (l.length:Int) (i:Int) (vN (l.take i))=some (vN l)
 |0,n,i,hi,hn=>by
  obtain⟨n,rfl⟩:∃x,n=x+1:=⟨n-1,by omega⟩;show ER k (BO k n) l _ _ _=_;unfold ER;simp_all
 |m+1,n,i,hi,hn=>by
  obtain⟨n,rfl⟩:∃x,n=x+1:=⟨n-1,by omega⟩;show ER k (BO k n) l _ _ _=_;unfold ER;have bd:i<l.length:=by omega
  rw[aa (by grind),ai,wU (by omega) (by omega),ai,ao,
   vOu hk _ _ _ _ _ (by rw[nX,bP];omega),ae,qB (N:=l.length) bd (by omega)]
  rw[show vN (l.take i)++wZ (l.getD i 0)=vN (l.take (i+1)) by
   rw[←fG l i 0 bd];simp[vN]]
  exact yIy hk l hl m n (i+1) (by omega) (by omega)
theorem ES {k}(hk:9≤k) l (hl:l.length≤1000000)(pO:l.length<k):xJ k l=some (vN l):=by
 unfold xJ;have h8:zA (8*(l.length:Int))=((8*l.length:Nat):Int):=by rw[zO (by omega) (by omega)];omega
 rw[h8];have hm:oZ 0 ((8*l.length:Nat):Int) 1=true:=by
  grind
 rw[hm,ai];have:=yIy hk l hl l.length k 0 (by omega) pO;show(BO k k l (l.length:Int) ((0:Nat):Int) (vN (l.take 0))).bind _=_;simp_all
def fV (l:AC):AC:=wZ (l.length:Int)++vN l
theorem XW {k}(hk:9≤k) l (hl:l.length≤1000000)(pO:l.length<k):PD k l=some (fV l):=by
 unfold PD;rw[ES hk [(l.length:Int)] (by simp) (by grind),ae,ES hk l hl pO,ae];rw[qE (by rw[nX,nX];grind) (by rw[nX,nX];grind)];rfl
def mo (b:AC):AC:=[IntKind.wrap .u8 (shr .i64 (b.length:Int) 8),IntKind.wrap .u8 (b.length:Int)]++b
theorem PE k b:KE k b=some (if b.length≤60000 then(mo b,true) else([],false)):=by
 unfold KE;by_cases h:b.length≤60000
 ·rw[ab (by omega),ak,qE (by omega) (by omega),if_pos h];rfl
 grind
theorem yS8 (x:Nat)(hx:x<18446744073709551616):(BitVec.ofInt 64 (x:Int)).toNat=x:=by
 rw[BitVec.ofInt_natCast,BitVec.toNat_ofNat];exact Nat.mod_eq_of_lt hx
theorem vXv (a c:Nat)(hc:c<256)(ha:a*256+c<18446744073709551616):(BitVec.ofInt 64 ((a*256:Nat):Int)|||BitVec.ofInt 64 (c:Int)).toNat=a*256+c:=by
 rw[BitVec.toNat_or,yS8 _ (by omega),yS8 _ (by omega)];have:=Nat.two_pow_add_eq_or_of_lt (b:=c) (i:=8) hc a;rw[show(2:Nat)^8*a=a*256 by omega] at this;exact this.symm
theorem KF (x:Int):IntKind.wrap .u8 x=x%256:=by
 unfold IntKind.wrap;simp[IntKind.bits,IntKind.signed]
theorem ET (x:Int):IntKind.wrap .u64 x=x%18446744073709551616:=by
 unfold IntKind.wrap;simp[IntKind.bits,IntKind.signed]
theorem XX {s c:Int}(hs:0≤s)(hc:0≤c∧c<256):pg s c=(s*256+c)%18446744073709551616:=by
 unfold pg;have e1:shl .u64 s 8=(s*256)%18446744073709551616:=ET _;rw[e1,ET c];obtain⟨a,ha⟩:∃a:Nat,s%72057594037927936=a:=⟨(s%72057594037927936).toNat,by omega⟩;obtain⟨d,rfl⟩:∃d:Nat,c=d:=⟨c.toNat,by omega⟩;have e2:(s*256)%18446744073709551616=((a*256:Nat):Int):=by omega
 have e3:(d:Int)%18446744073709551616=(d:Int):=by omega
 rw[e2,e3];show IntKind.wrap .u64 (((BitVec.ofInt 64 ((a*256:Nat):Int)|||BitVec.ofInt 64 (d:Int)).toNat:Nat):Int)=_;rw[vXv a d (by omega) (by omega),ET];omega
theorem yNd (n:Int)(i:Nat)(hi:i≤7):vE n i=(n/2^(8*i))%256:=by
 unfold vE;rw[KF]
 congr 1
 show n.fdiv (2^(min (8*(i:Int)).toNat 64))=_;rw[show min (8*(i:Int)).toNat 64=8*i by omega];exact Int.fdiv_eq_ediv_of_nonneg _ (Int.le_of_lt (Int.pow_pos (by decide)))
theorem XY {n:Int}(h1:-9223372036854775808≤n)(h2:n<9223372036854775808):fU (wZ n)=n:=by
 have o:=fun i (hi:i≤7)=>yNd n i hi
 have b:∀i,i≤7→0≤vE n i∧vE n i<256:=fun i hi=>by rw[o i hi];omega
 have p:∀s:Int,0≤s→∀i,i≤7→pg s (vE n i)=(s*256+vE n i)%18446744073709551616:=fun s hs i hi=>XX hs (b i hi)
 unfold fU wZ;simp only[List.foldl_cons,List.foldl_nil];rw[p 0 (by omega) 7 (by omega),p _ (by omega) 6 (by omega),p _ (by omega) 5 (by omega),p _ (by omega) 4 (by omega),p _ (by omega) 3 (by omega),p _ (by omega) 2 (by omega),p _ (by omega) 1 (by omega),p _ (by omega) 0 (by omega)];rw[o 7 (by omega),o 6 (by omega),o 5 (by omega),o 4 (by omega),o 3 (by omega),o 2 (by omega),o 1 (by omega),o 0 (by omega)];simp only[Nat.reduceMul,Int.reducePow];unfold zA IntKind.wrap;simp only[IntKind.bits,IntKind.signed,Bool.true_and];simp;split<;>omega
def yJ (l:EQ):AC:=l.flatMap fV
theorem sL l:(fV l).length=8*(l.length+1):=by
 simp[fV,nX];show 8+_=_;omega
theorem yMs {l:EQ}{i}(h:i<l.length):yJ (l.take i)++fV (l.getD i [])=yJ (l.take (i+1)):=by
 rw[←fG l i [] h];simp[yJ]
structure jA (l:EQ):Prop where
 n:l.length≤900
 r:∀x∈l,x.length≤900
theorem KG {l}(h:∀x∈l,x.length≤900):(yJ l).length≤8000*l.length:=by
 induction l with
 |nil=>simp[yJ]
 |cons x l ih=>
  have h1:=ih (by grind);have h2:=h x (by simp);simp[yJ,sL] at h1⊢;omega
theorem vQ2 {k}(hk:1000≤k){l}(h:jA l):KH k l=some (yJ l):=by
 have hn:=h.n;unfold KH;obtain ⟨s, h1, h2⟩ := yZ (L := fun n i (s : AC) => EU k n l (l.length : Int) i s) (N := l.length) (fun s => s) (fun i s => s = yJ (l.take i)) (fun n s _=>by
  show EV k (EU k n) l _ _ s=_;unfold EV;simp) (fun n i s hi hs=>by
  refine⟨s++fV (l.getD i []),?_,by rw[hs,yMs hi]⟩;show EV k (EU k n) l _ (i:Int) s=_;unfold EV;have hr:=h.r _ (jY (d:=[]) hi);have pU:s.length≤8000*1000:=by
   have:=KG (l:=l.take i) fun x hx=>h.r x (by grind)
   grind
  rw[aa (by grind),ai,wU (by omega) (by omega),ai,ao,XW (by omega) _ (by omega) (by omega),ae,
   qE (by rw[sL];omega) (by rw[sL];omega),ai,qB (N:=l.length) hi (by omega)]) (n:=k) (s:=[]) (by omega) rfl
 simp_all
def lB (a:Int×Int×Int):AC:=[a.1,a.2.1,a.2.2]
def lC (p:Int×Int×Int×Int×Int×Int×Int):AC:=[p.1,p.2.1,p.2.2.1,p.2.2.2.1,p.2.2.2.2.1,p.2.2.2.2.2.1,p.2.2.2.2.2.2]
def iV (s:xH):EQ:=
 (((((([[s.1,s.2.2.2.2.2.2.2.2.2.1,bif s.2.2.2.2.2.2.2.2.2.2 then 1 else 0,(s.2.1.length:Int),(s.2.2.1.length:Int),(s.2.2.2.1.length:Int),(s.2.2.2.2.1.length:Int),(s.2.2.2.2.2.2.1.length:Int),(s.2.2.2.2.2.2.2.1.length:Int)]]++
  s.2.1.map lB)++s.2.2.1)++[s.2.2.2.1])++s.2.2.2.2.1)++[s.2.2.2.2.2.1])++s.2.2.2.2.2.2.1)++s.2.2.2.2.2.2.2.1.map lC++[s.2.2.2.2.2.2.2.2.1]
theorem PF {α β:Type}(f:α→β) d {l:List α}{i}(h:i<l.length):(l.take i).map f++[f (l.getD i d)]=(l.take (i+1)).map f:=by
 rw[←fG l i d h];simp
theorem XZ {k}{l:List (Int×Int×Int)}(hl:l.length≤900)(hk:1000≤k)(s:xH)(b) r (hr:r.length≤1000000):BP k k l (l.length:Int) 0 s b r=some (s,b,r++l.map lB):=by
 obtain ⟨t, h1, h2⟩ := yZ (L := fun n i (t : EQ) => BP k n l (l.length : Int) i s b t) (N := l.length) (fun t => (s, b, t)) (fun i t => t = r ++ (l.take i).map lB) (fun n t _=>by
  show EW k (BP k n) l _ _ s b t=_;unfold EW;simp) (fun n i t hi ht=>by
  refine⟨t++[lB (l.getD i (0,0,0))],?_,by rw[ht,List.append_assoc,PF lB (0,0,0) hi]⟩;show EW k (BP k n) l _ (i:Int) s b t=_;unfold EW;have:t.length≤1001000:=by grind
  rw[aa (by grind),ai,wU (by omega) (by omega),ai,qE (by omega) (by omega),ai,qB (N:=l.length) hi (by omega)];rfl) (n:=k) (s:=r) (by omega) (by simp)
 simp_all
theorem X0 {k}{l:List (Int×Int×Int×Int×Int×Int×Int)}(hl:l.length≤900)(hk:1000≤k)(s:xH) r (hr:r.length≤1000000):BQ k k l (l.length:Int) 0 s r=some (s,r++l.map lC):=by
 obtain ⟨t, h1, h2⟩ := yZ (L := fun n i (t : EQ) => BQ k n l (l.length : Int) i s t) (N := l.length) (fun t => (s, t)) (fun i t => t = r ++ (l.take i).map lC) (fun n t _=>by
  show EX k (BQ k n) l _ _ s t=_;unfold EX;simp) (fun n i t hi ht=>by
  refine⟨t++[lC (l.getD i (0,0,0,0,0,0,0))],?_,by rw[ht,List.append_assoc,PF lC (0,0,0,0,0,0,0) hi]⟩;show EX k (BQ k n) l _ (i:Int) s t=_;unfold EX;have:t.length≤1001000:=by grind
  rw[aa (by grind),ai,wU (by omega) (by omega),ai,qE (by omega) (by omega),ai,qB (N:=l.length) hi (by omega)];rfl) (n:=k) (s:=r) (by omega) (by simp)
 simp_all
theorem yXm {k}(hk:1000≤k){s}(h:jA (iV s)):lD k s=some (yJ (iV s)):=by
 have hn:=h.n;simp only[iV,ay,List.length_map] at hn;unfold lD;rw[show PG k s.2.2.2.2.2.2.2.2.2.2=some (bif s.2.2.2.2.2.2.2.2.2.2 then 1 else 0) by unfold PG;grind,ae];rw[XZ (by omega) hk _ _ _ (by simp),ae];dsimp only;rw[qE (by grind) (by grind),ai,qE (by grind) (by grind),ai,qE (by simp;omega) (by grind),ai,qE (by simp;omega) (by simp;omega),ai,
  qE (by simp;omega) (by simp;omega),ai,X0 (by omega) hk _ _ (by simp;omega),ae]
 dsimp only;rw[qE (by simp;omega) (by simp;omega),ai];show(KH k (iV s)).bind (fun x1=>some x1)=_;rw[vQ2 hk h];rfl
structure X1 (D:wJ):Prop where
 agQ:D.2.2.2.2.2.2.2.1=false
 down:D.2.2.2.2.2.2.2.2.1=false
 room:0≤D.1∧D.1≤200000
 x:(D.2.1.length:Int)≤D.1
 y:(D.2.2.2.1.length:Int)≤D.1
def ke (D:wJ)(i:Int):AC:=if i=0 then D.2.1 else D.2.2.2.1
theorem X1.as {D}(h:X1 D):∃ro x sx y sy cA cK op,D=gE ro x sx y sy cA cK op∧0≤ro∧ro≤200000∧(x.length:Int)≤ro∧(y.length:Int)≤ro:=by
 obtain⟨ro,x,sx,y,sy,cA,cK,ar,dn,op⟩:=D;obtain⟨h1,h2,h3,h4,h5⟩:=h;subst h1;subst h2;grind
structure ag4 (L:vS):Prop where
 side:L.1=0∨L.1=1
 gen:1≤L.2.1∧L.2.1≤4611686018427387904
 rows:0≤L.2.2.1∧L.2.2.1≤1000000
 stale:L.2.2.2=false
theorem PH b:(mo b).length=b.length+2:=by rfl
def ph (l:AC):Prop:=∀x∈l,-9223372036854775808≤x∧x<9223372036854775808
theorem vFb:∀{l},ph l→ez l.length (vN l)=l
 |[],_=>rfl
 |n::l,h=>by
  have h1:=h n (by simp);have e:vN (n::l)=wZ n++vN l:=by rfl
  show fU ((wZ n++vN l).take 8)::ez l.length ((wZ n++vN l).drop 8)=_;have t:(wZ n++vN l).take 8=wZ n:=rfl;have d:(wZ n++vN l).drop 8=vN l:=rfl;rw[t,d,XY h1.1 h1.2,vFb fun x hx=>h x (by grind)]
theorem X2 {l}(h:ph l):eQ (vN l)=(l,0):=by
 unfold eQ;have:=nX l;rw[if_pos (by omega),show(vN l).length/8=l.length by omega,vFb h]
abbrev qY:=Int×Int×Int
abbrev zH:=Int×Int×Int×Int×Int×Int×Int
def fJ (a:qY):Bool:=decide (a.1>-4611686018427387904)&&(decide (a.1<4611686018427387904)&&(decide (a.2.1≥0)&&(decide (a.2.1≤2305843009213693952)&&(decide (a.2.2≥0)&&decide (a.2.2≤2305843009213693952)))))
def wV (n:Int):Bool:=decide (n≥-1)&&decide (n≤2305843009213693952)
def iD (n:Int):Bool:=decide (n>-72057594037927936)&&decide (n<72057594037927936)
def cell (m:EQ)(i j:Nat):Int:=(m.getD i []).getD j 0
def mX (n:Nat)(m:EQ):Bool:=decide (m.length=n)&&zZ (fun i=>decide ((m.getD i []).length=n)) n 0
def qh (p:Int→Bool)(n:Nat)(m:EQ):Bool:=zZ (fun i=>zZ (fun j=>p (cell m i j)) n 0) n 0
def xK (n:Nat)(m:EQ):Bool:=zZ (fun i=>zZ (fun j=>decide (cell m i j=zA (0-cell m j i))) n 0) n 0
def kP (xL:List qY)(bil:EQ)(mul:AC)(pos:EQ):Bool:=
 let n:=xL.length
 decide (1≤n)&&(decide (n≤6)&&(mX n bil&&(mX n pos&&(decide (mul.length=n)&&(zZ (fun i=>fJ (xL.getD i (0,0,0))) n 0&&(zZ (fun i=>wV (mul.getD i 0)) n 0&&(qh wV n bil&&(qh iD n pos&&xK n pos))))))))
theorem X3 k b c r:KI k b c r=some (fJ (b,c,r)):=by
 unfold KI fJ;grind
theorem yV3 k b c r:PI k b c r=some (fJ (b,c,r)):=X3 k b c r
theorem X4 k n:KJ k n=some (wV n):=by
 unfold KJ wV;grind
theorem vO3 k n:X5 k n=some (wV n):=X4 k n
theorem X6 k n:PJ k n=some (iD n):=by
 unfold PJ iD;grind
theorem vEe {k:Nat}{n:Nat}(hk:n<k)(hn:n≤1000)(m:EQ):KK k m n=some (mX n m):=by
 unfold KK mX;simp only[sG];by_cases h:m.length=n
 ·have := fk (L := fun c i => KL k c m n i) (N := n) (fun i => decide ((m.getD i []).length = n)) (.inl ()) (.inr false) (fun c=>by
    show EY k _ m n n=_;unfold EY;simp only [qS, ab (Nat.lt_irrefl n), ak]) (fun c i hi=>by
    show EY k _ m n i=_;unfold EY;simp only[zY,qB hi (by omega),qS,sG,ao,h,aa hi,ai];cases decide ((m.getD i []).length=n)<;>rfl) hk
  simp only[h,decide_true,az,ak,Bool.true_and];rw[this];generalize zZ _ _ _=r;cases r<;>rfl
 ·simp only[ab h,bO,ai,Bool.false_and]
theorem vNa {k:Nat}{N i:Nat}(hk:N<k)(hN:N≤1000)(hi:i<N){a:List qY}{b p:EQ}{m:AC}(hb:b.length=N)(hp:p.length=N)(X7:∀j,j<N→(b.getD j []).length=N)(pj:∀j,j<N→(p.getD j []).length=N):
  EZ k k N i 0 a b m p=some (bif zZ (fun j=>wV (cell b i j)&&(iD (cell p i j)&&decide (cell p i j=zA (0-cell p j i)))) N 0 then .inl ((N:Int),(i:Int),a,b,m,p) else .inr false):=by
 refine fk (L:=fun c j=>EZ k c N i j a b m p) (N:=N) _ (.inl ((N:Int),(i:Int),a,b,m,p)) (.inr false) (fun c=>?_) (fun c j hj=>?_) hk
 ·show E0 k _ N i N a b m p=_;unfold E0;simp only[qS,ab (Nat.lt_irrefl N),ak]
 ·show E0 k _ N i j a b m p=_;unfold E0;simp only[zY,qB hj (by omega),qS,ao,hb,hp,X7 i hi,pj i hi,pj j hj,aa hj,aa hi,ai,X4,ae,iD];show(bif !wV (cell b i j) then _ else bif decide (cell p i j≤_) then _ else bif decide (cell p i j≥_) then _ else bif !decide (cell p i j=_) then _ else _)=_;have e1:decide (cell p i j≤-72057594037927936)= !decide (cell p i j>-72057594037927936):=by
   by_cases h:cell p i j≤-72057594037927936
   ·rw[aa h,ab (by omega)];rfl
   ·rw[ab h,aa (by omega)];rfl
  have e2:decide (cell p i j≥72057594037927936)= !decide (cell p i j<72057594037927936):=by
   by_cases h:cell p i j≥72057594037927936
   ·rw[aa h,ab (by omega)];rfl
   ·rw[ab h,aa (by omega)];rfl
  rw[e1,e2];show(bif !wV (cell b i j) then _ else bif _ then _ else bif _ then _ else bif !decide (cell p i j=zA (0-cell p j i)) then _ else _)=_;cases wV (cell b i j)<;>cases decide (cell p i j>-72057594037927936)<;>cases decide (cell p i j<72057594037927936)<;>cases decide (cell p i j=zA (0-cell p j i))<;>rfl
theorem X8 {k:Nat}{N:Nat}(hk:N<k)(hN:N≤1000){a:List qY}{b p:EQ}{m:AC}(ha:a.length=N)(hm:m.length=N)(hb:b.length=N)(hp:p.length=N)(X7:∀j,j<N→(b.getD j []).length=N)(pj:∀j,j<N→(p.getD j []).length=N):
  E1 k k N 0 a b m p=some (bif zZ (fun i=>fJ (a.getD i (0,0,0))&&(wV (m.getD i 0)&&zZ (fun j=>wV (cell b i j)&&(iD (cell p i j)&&decide (cell p i j=zA (0-cell p j i)))) N 0)) N 0 then .inl () else .inr false):=by
 refine fk (L:=fun c j=>E1 k c N j a b m p) (N:=N) _ (.inl ()) (.inr false) (fun c=>?_) (fun c i hi=>?_) hk
 ·show E2 k _ N N a b m p=_;unfold E2;simp only[qS,ab (Nat.lt_irrefl N),ak]
 ·show E2 k _ N i a b m p=_;unfold E2;simp only[zY,qS,ao,ha,hm,aa hi,ai,X4,X3,ae,vNa hk hN hi hb hp X7 pj];generalize zZ _ N 0=r;show(bif !fJ (a.getD i (0,0,0)) then _ else _)=_;cases fJ (a.getD i (0,0,0))<;>cases wV (m.getD i 0)<;>cases r<;>simp only[az,bO,ai,ak,Bool.and_true,Bool.and_false,Bool.true_and,Bool.false_and,qB hi (show N<9223372036854775808 by omega)]
theorem vDh {k:Nat}(hk:10<k)(a:List qY)(b:EQ)(m:AC)(p:EQ):E3 k a b m p=some (kP a b m p):=by
 unfold E3;have l1:decide ((a.length:Int)<1)= !decide (1≤a.length):=by
  by_cases h:1≤a.length
  ·rw[aa h,ab (by omega)];rfl
  ·rw[ab h,aa (by omega)];rfl
 have l2:decide ((a.length:Int)>6)= !decide (a.length≤6):=by
  by_cases h:a.length≤6
  ·rw[aa h,ab (by omega)];rfl
  ·rw[ab h,aa (by omega)];rfl
 rw[l1,l2];unfold kP;dsimp only;by_cases h1:1≤a.length
 case neg=>rw[ab h1];rfl
 by_cases h2:a.length≤6
 case neg=>rw[aa h1,ab h2];rfl
 rw[aa h1,aa h2];simp only[az,ak,Bool.true_and];rw[vEe (by omega) (by omega),vEe (by omega) (by omega)];simp only[ae,sG];cases hb:mX a.length b with
 |false=>rfl
 |true=>
  cases hp:mX a.length p with
  |false=>rfl
  |true=>
   by_cases hm:m.length=a.length
   case neg=>simp only[ab hm];rfl
   simp only[mX,aR,aZ,wI] at hb hp;simp only[hm,decide_true,az,ak,Bool.true_and];rw[X8 (by omega) (by omega) rfl hm hb.1 hp.1 hb.2 hp.2];have e:(zZ (fun i=>fJ (a.getD i (0,0,0))) a.length 0&&(zZ (fun i=>wV (m.getD i 0)) a.length 0&&(qh wV a.length b&&(qh iD a.length p&&xK a.length p))))=
     zZ (fun i=>fJ (a.getD i (0,0,0))&&(wV (m.getD i 0)&&zZ (fun j=>wV (cell b i j)&&(iD (cell p i j)&&decide (cell p i j=zA (0-cell p j i)))) a.length 0)) a.length 0:=by
    rw[Bool.eq_iff_iff];simp only[qh,xK,aR,wI];constructor
    ·rintro⟨h1,h2,h3,h4,h5⟩ i hi
     exact⟨h1 i hi,h2 i hi,fun j hj=>⟨h3 i hi j hj,h4 i hi j hj,h5 i hi j hj⟩⟩
    ·intro h;exact⟨fun i hi=>(h i hi).1,fun i hi=>(h i hi).2.1,fun i hi j hj=>((h i hi).2.2 j hj).1,fun i hi j hj=>((h i hi).2.2 j hj).2.1,fun i hi j hj=>((h i hi).2.2 j hj).2.2⟩
   rw[e];generalize zZ _ _ _=r;cases r<;>rfl
theorem vNl {k}{a:List qY}(hk:a.length<k)(hl:a.length<9223372036854775808):PK k a=some (!zZ (fun i=>fJ (a.getD i (0,0,0))) a.length 0):=by
 obtain ⟨x, h1, h2⟩ := qg (L := fun c i => KM k c a a.length i) (N := a.length) (fun i => !fJ (a.getD i (0, 0, 0))) (fun c=>by
  show E4 k _ a a.length a.length=_;unfold E4;simp) (fun c i hi=>by
  show E4 k _ a a.length i=_;unfold E4 X9;simp[zY,qB hi hl,aa hi,yV3]) hk
 unfold PK Ya;grind
theorem Yb {k a}(hk:a.length<k)(hl:a.length<9223372036854775808):PM k a=some (!zZ (fun i=>wV (a.getD i 0)) a.length 0):=by
 obtain ⟨x, h1, h2⟩ := qg (L := fun c i => KN k c a a.length i) (N := a.length) (fun i => !wV (a.getD i 0)) (fun c=>by
  show E5 k _ a a.length a.length=_;unfold E5;simp) (fun c i hi=>by
  show E5 k _ a a.length i=_;unfold E5 Yc;simp[zY,qB hi hl,aa hi,vO3]) hk
 unfold PM Yd;grind
theorem Ye {k a}(hk:a.length<k)(hl:a.length<9223372036854775808):PN k a=some (!zZ (fun i=>iD (a.getD i 0)) a.length 0):=by
 obtain ⟨x, h1, h2⟩ := qg (L := fun c i => KO k c a a.length i) (N := a.length) (fun i => !iD (a.getD i 0)) (fun c=>by
  show E6 k _ a a.length a.length=_;unfold E6;simp) (fun c i hi=>by
  show E6 k _ a a.length i=_;unfold E6 Yf;simp[zY,qB hi hl,aa hi,X6]) hk
 unfold PN Yg;grind
theorem yKc {k n:Nat}(hk:n<k)(hn:n≤1000)(a:AC):KP k a n=some (decide (a.length=n)&&zZ (fun i=>wV (a.getD i 0)) n 0):=by
 unfold KP;simp only[sG];by_cases h:a.length=n
 ·rw[Yb (by omega) (by omega)];simp only[h,decide_true,ai,ae,Bool.not_not,Bool.true_and]
 ·simp only[ab h,ak,Bool.false_and]
theorem vQh {k n:Nat}(hk:n<k)(hn:n≤1000)(a:AC):PO k a n=some (decide (a.length=n)&&zZ (fun i=>iD (a.getD i 0)) n 0):=by
 unfold PO;simp only[sG];by_cases h:a.length=n
 ·rw[Ye (by omega) (by omega)];simp only[h,decide_true,ai,ae,Bool.not_not,Bool.true_and]
 ·simp only[ab h,ak,Bool.false_and]
theorem Yh {k n:Nat}(hk:n<k)(hn:n≤1000)(m:EQ):PQ k m n=some (decide (m.length=n)&&zZ (fun i=>decide ((m.getD i []).length=n)&&zZ (fun j=>wV (cell m i j)) n 0) n 0):=by
 unfold PQ;simp only[sG];by_cases h:m.length=n
 ·have := fk (L := fun c i => KQ k c n m n i) (N := n) (fun i => decide ((m.getD i []).length = n) && zZ (fun j => wV (cell m i j)) n 0) (.inl ()) (.inr false) (fun c=>by
    show E7 k _ n m n n=_;unfold E7;simp only [qS, ab (Nat.lt_irrefl n), ak]) (fun c i hi=>by
    show E7 k _ n m n i=_;unfold E7;simp only[zY,qB hi (by omega),qS,ao,h,aa hi,ai,yKc hk hn,ae];show(bif !(decide ((m.getD i []).length=n)&&zZ (fun j=>wV (cell m i j)) n 0) then _ else _)=_;generalize (decide ((m.getD i []).length=n)&&zZ (fun j=>wV (cell m i j)) n 0)=r;cases r<;>rfl) hk
  simp only[h,decide_true,az,ak,Bool.true_and];rw[this];generalize zZ _ _ _=r;cases r<;>rfl
 ·simp only[ab h,bO,ai,Bool.false_and]
theorem vMf {k n:Nat}(hk:n<k)(hn:n≤1000)(m:EQ):PR k m n=some (decide (m.length=n)&&zZ (fun i=>decide ((m.getD i []).length=n)&&zZ (fun j=>iD (cell m i j)) n 0) n 0):=by
 unfold PR;simp only[sG];by_cases h:m.length=n
 ·have := fk (L := fun c i => KR k c n m n i) (N := n) (fun i => decide ((m.getD i []).length = n) && zZ (fun j => iD (cell m i j)) n 0) (.inl ()) (.inr false) (fun c=>by
    show E8 k _ n m n n=_;unfold E8;simp only [qS, ab (Nat.lt_irrefl n), ak]) (fun c i hi=>by
    show E8 k _ n m n i=_;unfold E8;simp only[zY,qB hi (by omega),qS,ao,h,aa hi,ai,vQh hk hn,ae];show(bif !(decide ((m.getD i []).length=n)&&zZ (fun j=>iD (cell m i j)) n 0) then _ else _)=_;generalize (decide ((m.getD i []).length=n)&&zZ (fun j=>iD (cell m i j)) n 0)=r;cases r<;>rfl) hk
  simp only[h,decide_true,az,ak,Bool.true_and];rw[this];generalize zZ _ _ _=r;cases r<;>rfl
 ·simp only[ab h,bO,ai,Bool.false_and]
theorem vX2 {k N i:Nat}(hk:N<k)(hN:N≤1000)(hi:i<N){p q:EQ}{u:Int}(hp:p.length=N)(pj:∀j,j<N→(p.getD j []).length=N):
  E9 k k p i q u i (p.getD i []) N 0=some (bif zZ (fun j=>decide (cell p j i=zA (0-cell p i j))) N 0 then .inl (p,q,u,(i:Int)) else .inr false):=by
 refine fk (L:=fun c j=>E9 k c p i q u i (p.getD i []) N j) (N:=N) _ (.inl (p,q,u,(i:Int))) (.inr false) (fun c=>?_) (fun c j hj=>?_) hk
 ·show Fa k _ p i q u i (p.getD i []) N N=_;unfold Fa;simp only[qS,ab (Nat.lt_irrefl N),ak]
 ·show Fa k _ p i q u i (p.getD i []) N j=_;unfold Fa;simp only[zY,qB hj (show N<9223372036854775808 by omega),qS,ao,hp,pj i hi,pj j hj,aa hj,aa hi,ai];show(bif !decide (cell p j i=zA (0-cell p i j)) then _ else _)=_;generalize decide (cell p j i=zA (0-cell p i j))=r;cases r<;>rfl
theorem Yi {k N}(hk:N<k)(hN:N≤1000){p}(hp:p.length=N)(pj:∀j,j<N→(p.getD j []).length=N):
  PS k p=some (xK N p):=by
 have := fk (L := fun c i => KS k c p p N i) (N := N) (fun i => zZ (fun j => decide (cell p j i = zA (0 - cell p i j))) N 0) (.inl ()) (.inr false) (fun c=>by
   show Fc k _ p p N N=_;unfold Fc;simp) (fun c i hi=>by
   show Fc k _ p p N i=_;unfold Fc;simp only[zY,qS,ao,hp,pj i hi,aa hi,vX2 hk hN hi hp pj,ae];generalize zZ _ N 0=r;cases r<;>simp[qB hi (by grind)]) hk
 unfold PS;have e:zZ (fun i=>zZ (fun j=>decide (cell p j i=zA (0-cell p i j))) N 0) N 0=xK N p:=by
  rw[Bool.eq_iff_iff];simp[xK,wI];grind
 grind
theorem vBq {k:Nat}(hk:10<k)(a:List qY)(b:EQ)(m:AC)(p:EQ):Fe k a b m p=some (kP a b m p):=by
 unfold Fe;have l1:decide ((a.length:Int)<1)= !decide (1≤a.length):=by
  by_cases h:1≤a.length
  ·rw[aa h,ab (by omega)];rfl
  ·rw[ab h,aa (by omega)];rfl
 have l2:decide ((a.length:Int)>6)= !decide (a.length≤6):=by
  by_cases h:a.length≤6
  ·rw[aa h,ab (by omega)];rfl
  ·rw[ab h,aa (by omega)];rfl
 rw[l1,l2];unfold kP;dsimp only;by_cases h1:1≤a.length
 case neg=>rw[ab h1];rfl
 by_cases h2:a.length≤6
 case neg=>rw[aa h1,ab h2];rfl
 rw[aa h1,aa h2];simp only[az,ak,Bool.true_and];rw[vNl (by omega) (by omega),Yh (by omega) (by omega),yKc (by omega) (by omega),vMf (by omega) (by omega)];simp only[ae];generalize hA:zZ (fun i=>fJ (a.getD i (0,0,0))) a.length 0=A;have sq:∀(q:Int→Bool) (m:EQ),(decide (m.length=a.length)&&zZ (fun i=>decide ((m.getD i []).length=a.length)&&zZ (fun j=>q (cell m i j)) a.length 0) a.length 0)=(mX a.length m&&qh q a.length m):=by
  intro q m;rw[Bool.eq_iff_iff];simp only[mX,qh,aR,aZ,wI];exact⟨fun h=>⟨⟨h.1,fun i hi=>(h.2 i hi).1⟩,fun i hi=>(h.2 i hi).2⟩,fun h=>⟨h.1.1,fun i hi=>⟨h.1.2 i hi,h.2 i hi⟩⟩⟩
 rw[sq wV b,sq iD p];cases hp:mX a.length p with
 |false=>
  cases A<;>cases mX a.length b<;>cases qh wV a.length b<;>cases decide (m.length=a.length)<;>cases zZ (fun i=>wV (m.getD i 0)) a.length 0<;>rfl
 |true=>
  simp only[mX,aR,aZ,wI] at hp;rw[Yi (N:=a.length) (by omega) (by omega) hp.1 hp.2];cases A<;>cases mX a.length b<;>cases qh wV a.length b<;>cases decide (m.length=a.length)<;>cases zZ (fun i=>wV (m.getD i 0)) a.length 0<;>cases qh iD a.length p<;>cases xK a.length p<;>rfl
theorem yWd {k N:Nat}{s}(hN:s.length=N)(hl:N≤1000)(hr:∀i,i<N→(s.getD i []).length≤1000):∀c i n,i+c=N→c<n→KT k n s i (s.take i)=some s
 |0,i,n,h,hn=>by
  obtain⟨n,rfl⟩:∃m,n=m+1:=⟨n-1,by omega⟩;show Ff k _ s i (s.take i)=_;unfold Ff;grind
 |c+1,i,n,h,hn=>by
  obtain⟨n,rfl⟩:∃m,n=m+1:=⟨n-1,by omega⟩;show Ff k _ s i (s.take i)=_;unfold Ff;have hi:i<s.length:=by omega
  have h1:=hr i (by omega);have e1:zM (0+(s.getD i []).length) 8=true:=qE (by omega) (by omega);have e2:zM ((s.take i).length+1) 24=true:=qE (by grind) (by grind);simp only[zY,qB hi (by grind),qS,ao,aa hi,e1,e2];rw[fG s i [] hi];exact yWd hN hl hr c (i+1) n (by omega) (by omega)
theorem yN0 {k s}(hl:s.length≤1000)(hk:s.length<k)(hr:∀i,i<s.length→(s.getD i []).length≤1000):KU k s=some s:=by
 unfold KU;have:=yWd (k:=k) rfl hl hr s.length 0 k (by omega) hk;simp_all
theorem yHq {k N:Nat}{s}(hN:s.length=N)(hl:N≤1000)(hr:∀i,i<N→(s.getD i []).length≤1000):∀c i n,i+c=N→c<n→KV k n s N i (s.take i) N=some (s,N)
 |0,i,n,h,hn=>by
  obtain⟨n,rfl⟩:∃m,n=m+1:=⟨n-1,by omega⟩;show Fg k _ s N i (s.take i) N=_;unfold Fg;grind
 |c+1,i,n,h,hn=>by
  obtain⟨n,rfl⟩:∃m,n=m+1:=⟨n-1,by omega⟩;show Fg k _ s N i (s.take i) N=_;unfold Fg qi;have hi:i<N:=by omega
  have h1:=hr i (by omega);have e1:zM (0+(s.getD i []).length) 8=true:=qE (by omega) (by omega);have e2:Nat.beq i (s.take i).length=true:=by rw[bP,Nat.min_eq_left (by omega)];simp
  simp only[zY,qB hi (by grind),qS,ao,aa hi,ai,e1,e2,hN,ae];rw[fG s i [] (by omega)];exact yHq hN hl hr c (i+1) n (by omega) (by omega)
theorem yU8 {k s}(hl:s.length≤1000)(hk:s.length<k)(hr:∀i,i<s.length→(s.getD i []).length≤1000):KW k s=some s:=by
 unfold KW Yj;have:=yHq (k:=k) rfl hl hr s.length 0 k (by omega) hk;rw[List.take_zero] at this;have e:((0:Nat):Int)=0:=rfl;rw[e] at this;have e1:zM (0+s.length) 24=true:=qE (by omega) (by omega);simp only[e1,ai,ae];rw[this];simp only[WN];simp
structure Sized (a:List qY) (b:EQ) (m:AC) (p:EQ):Prop where
 n1:1≤a.length
 n6:a.length≤6
 bl:b.length=a.length
 br:∀i,i<a.length→(b.getD i []).length=a.length
 ml:m.length=a.length
 pl:p.length=a.length
 pr:∀i,i<a.length→(p.getD i []).length=a.length
structure wS (a:List qY) (b:EQ) (m:AC) (p:EQ):Prop extends Sized a b m p where
 acct:∀i,i<a.length→fJ (a.getD i (0,0,0))=true
 mul:∀i,i<a.length→wV (m.getD i 0)=true
 bil:∀i,i<a.length→∀j,j<a.length→wV (cell b i j)=true
 net:∀i,i<a.length→∀j,j<a.length→iD (cell p i j)=true
 turn:∀i,i<a.length→∀j,j<a.length→cell p i j=zA (0-cell p j i)
theorem Fh {a:List qY}{b:EQ}{m:AC}{p:EQ}:kP a b m p=true↔wS a b m p:=by
 unfold kP;simp only[aR,aZ,mX,qh,xK,wI];constructor
 ·rintro⟨h1,h2,⟨h3,h4⟩,⟨h5,h6⟩,h7,h8,h9,Yk,h11,Yl⟩
  exact{n1:=h1,n6:=h2,bl:=h3,br:=h4,ml:=h7,pl:=h5,pr:=h6,acct:=h8,mul:=h9,bil:=Yk,net:=h11,turn:=Yl}
 ·intro h;exact⟨h.n1,h.n6,⟨h.bl,h.br⟩,⟨h.pl,h.pr⟩,h.ml,h.acct,h.mul,h.bil,h.net,h.turn⟩
theorem KX {k}(hk:10<k){a b m p}(h:Sized a b m p):pn k a b m p=some (a,b,m,p):=by
 obtain⟨h1,h2,h3,h4,h5,h6,h7⟩:=h;unfold pn;have e1:zM (0+a.length) 24=true:=qE (by omega) (by omega);have e2:zM (0+m.length) 8=true:=qE (by omega) (by omega);rw[yN0 (s:=b) (by omega) (by omega) (by grind),yN0 (s:=p) (by omega) (by omega) (by grind)];grind
theorem KY {k}(hk:10<k){a b m p}(h:Sized a b m p):gF k a b m p=some (a,b,m,p):=by
 obtain⟨h1,h2,h3,h4,h5,h6,h7⟩:=h;unfold gF Ym qi;have e1:zM (0+a.length) 24=true:=qE (by omega) (by omega);have e2:zM (0+m.length) 8=true:=qE (by omega) (by omega);rw[yU8 (s:=b) (by omega) (by omega) (by grind),yU8 (s:=p) (by omega) (by omega) (by grind)];grind
theorem KZ {α:Type} d [DecidableEq α]{a b:List α}(h:a.length=b.length):zZ (fun i=>decide (a.getD i d=b.getD i d)) a.length 0=decide (a=b):=by
 rw[Bool.eq_iff_iff,wI];simp;exact⟨fun h'=>EK d h h',by grind⟩
theorem PT {k:Nat}{a b:AC}(hk:a.length<k)(hl:a.length<9223372036854775808):uB k a b=some (decide (a=b)):=by
 unfold uB;simp only[sG];by_cases h:a.length=b.length
 ·have := fk (L := fun c i => K0 k c a b i) (N := a.length) (fun i => decide (a.getD i 0 = b.getD i 0)) (.inl ()) (.inr false) (fun c=>by
    show Fi k _ a b a.length=_;unfold Fi;simp only [qS, ab (Nat.lt_irrefl _), ak]) (fun c i hi=>by
    show Fi k _ a b i=_;unfold Fi;simp only[zY,qB hi hl,qS,ao,←h,aa hi,ai];cases decide (a.getD i 0=b.getD i 0)<;>rfl) hk
  rw[KZ 0 h] at this;simp only[h,decide_true,az,ak];rw[this];cases decide (a=b)<;>rfl
 ·simp only[ab h,bO,ai];rw[ab fun e=>h (by rw[e])]
theorem Yn {k:Nat}{a b:EQ}(hk:a.length<k)(hl:a.length<9223372036854775808)(hr:∀i,i<a.length→(a.getD i []).length<k∧(a.getD i []).length<9223372036854775808):BR k a b=some (decide (a=b)):=by
 unfold BR;simp only[sG];by_cases h:a.length=b.length
 ·have := fk (L := fun c i => K1 k c a b i) (N := a.length) (fun i => decide (a.getD i [] = b.getD i [])) (.inl ()) (.inr false) (fun c=>by
    show Fj k _ a b a.length=_;unfold Fj;simp only [qS, ab (Nat.lt_irrefl _), ak]) (fun c i hi=>by
    show Fj k _ a b i=_;unfold Fj;simp only[zY,qB hi hl,qS,ao,←h,aa hi,ai,PT (hr i hi).1 (hr i hi).2,ae];cases decide (a.getD i []=b.getD i [])<;>rfl) hk
  rw[KZ [] h] at this;simp only[h,decide_true,az,ak];rw[this];cases decide (a=b)<;>rfl
 ·simp only[ab h,bO,ai];rw[ab fun e=>h (by rw[e])]
theorem Yo {k:Nat}(hk:10<k){a:List qY}{b:EQ}{m:AC}{p:EQ}(h:Sized a b m p)(a':List qY)(b':EQ)(m':AC)(p':EQ):
  K2 k a b m p a' b' m' p'=some (decide (a=a')&&(decide (b=b')&&(decide (p=p')&&decide (m=m')))):=by
 obtain⟨h1,h2,h3,h4,h5,h6,h7⟩:=h;unfold K2;simp only[sG];by_cases hl:a.length=a'.length
 ·rw[Yn (a:=b) (by omega) (by omega) (fun i hi=>by rw[h4 i (by omega)];omega),Yn (a:=p) (by omega) (by omega) (fun i hi=>by rw[h7 i (by omega)];omega),PT (by omega) (by omega)];have := fk (L := fun c i => K3 k c i a b m p a' b' m' p') (N := a.length) (fun i => decide (a.getD i (0, 0, 0) = a'.getD i (0, 0, 0))) (.inl ()) (.inr false) (fun c=>by
    show Fk k _ a.length a b m p a' b' m' p'=_;unfold Fk;simp only [qS, ab (Nat.lt_irrefl _), ak]) (fun c i hi=>by
    show Fk k _ i a b m p a' b' m' p'=_;unfold Fk;simp only[zY,qB hi (show a.length<9223372036854775808 by omega),qS,ao,←hl,aa hi,ai];have e:decide (a.getD i (0,0,0)=a'.getD i (0,0,0))=(decide ((a.getD i (0,0,0)).1=(a'.getD i (0,0,0)).1)&&(decide ((a.getD i (0,0,0)).2.1=(a'.getD i (0,0,0)).2.1)&&decide ((a.getD i (0,0,0)).2.2=(a'.getD i (0,0,0)).2.2))):=by
     rw[Bool.eq_iff_iff];simp only[aR,aZ];exact⟨fun h=>by rw[h];exact⟨rfl,rfl,rfl⟩,fun h=>Prod.ext h.1 (Prod.ext h.2.1 h.2.2)⟩
    rw[e];generalize (decide ((a.getD i (0,0,0)).1=(a'.getD i (0,0,0)).1)&&_)=r;cases r<;>rfl) (show a.length<k by omega)
  rw[KZ (0,0,0) hl] at this;simp only[hl,decide_true,az,ak,ae];have e0:((0:Nat):Int)=0:=rfl;rw[this];cases decide (b=b')<;>cases decide (p=p')<;>cases decide (m=m')<;>cases decide (a=a')<;>rfl
 ·simp only[ab hl,bO,ai];rw[ab fun e=>hl (by rw[e])];rfl
abbrev pd:zH:=(0,(0,(0,(0,(0,(0,0))))))
abbrev ad:qY:=(0,(0,0))
def pq (n:Nat)(p:zH):Bool:=decide (p.2.1≥0)&&(decide (p.2.1<(n:Int))&&(decide (p.2.2.1≥0)&&(decide (p.2.2.1<(n:Int))&&(!decide (p.2.1=p.2.2.1)&&(decide (p.2.2.2.1≥1)&&(decide (p.2.2.2.1≤1099511627776)&&(decide (p.2.2.2.2.1≥1)&&decide (p.2.2.2.2.1≤3))))))))
structure yN (n:Nat) (p:zH):Prop where
 f0:0≤p.2.1
 f1:p.2.1<n
 t0:0≤p.2.2.1
 t1:p.2.2.1<n
 ne:p.2.1≠p.2.2.1
 a1:1≤p.2.2.2.1
 a2:p.2.2.2.1≤1099511627776
 c1:1≤p.2.2.2.2.1
 c3:p.2.2.2.2.1≤3
theorem Yp {n p}:pq n p=true↔yN n p:=by
 unfold pq;simp;exact⟨fun⟨h1,h2,h3,h4,h5,h6,h7,h8,h9⟩=>⟨h1,h2,h3,h4,h5,h6,h7,h8,h9⟩,fun⟨h1,h2,h3,h4,h5,h6,h7,h8,h9⟩=>by grind⟩
theorem PU k (a:List qY) b m p i f t am c s ti:Fl k a b m p i f t am c s ti=some (pq a.length (i,f,t,am,c,s,ti)):=by
 unfold Fl pq;grind
theorem yFv k (a:List qY) b m p i f t am c s ti:PV k a b m p i f t am c s ti=some (pq a.length (i,f,t,am,c,s,ti)):=PU k a b m p i f t am c s ti
def nY (n:Nat)(l:List zH):Bool:=zZ (fun i=>pq n (l.getD i pd)) l.length 0
theorem BS {n l}:nY n l=true↔∀p∈l,yN n p:=by
 unfold nY;rw[wI];constructor
 ·intro h p hp;obtain⟨i,hi,rfl⟩:=List.getElem_of_mem hp;have:=h i hi;rw[bY,List.getElem?_eq_getElem hi] at this;exact Yp.1 this
 ·intro h i hi;exact Yp.2 (by grind)
theorem Yq {k}{l:List zH}(hk:l.length<k)(hl:l.length<9223372036854775808)(a:List qY) b m p:PW k l a b m p=some (!nY a.length l):=by
 obtain ⟨x, h1, h2⟩ := qg (L := fun c i => K4 k c l l.length i a b m p) (N := l.length) (fun i => !pq a.length (l.getD i pd)) (fun c=>by
  show Fm k _ l l.length l.length a b m p=_;unfold Fm;simp) (fun c i hi=>by
  show Fm k _ l l.length i a b m p=_;unfold Fm Yr;simp[zY,qB hi hl,aa hi,PU]) hk
 unfold PW Ys;unfold nY;grind
theorem vHr {k}{l:List zH}(hk:l.length<k)(hl:l.length<9223372036854775808)(a:List qY) b m p:K5 k a b m p l=some (nY a.length l&&decide (l.length≤64)):=by
 unfold K5;have := fk (L := fun c i => K6 k c l i a b m p) (N := l.length) (fun i => pq a.length (l.getD i pd)) (.inl l) (.inr false) (fun c=>by
  show Fo k _ l l.length a b m p=_;unfold Fo;simp) (fun c i hi=>by
  show Fo k _ l i a b m p=_;unfold Fo;simp only[zY,qB hi hl,qS,aa hi,yFv];simp) hk
 unfold nY;have e:decide (((l.length:Nat):Int)≤64)=decide (l.length≤64):=by
  grind
 grind
def gB (i:Nat)(p:zH):Int:=(if p.2.2.1=i then p.2.2.2.1 else 0)-(if p.2.1=i then p.2.2.2.1 else 0)
def gS (i j:Nat)(p:zH):Int:=if p.2.1=i∧p.2.2.1=j then p.2.2.2.1 else 0
def gR (i:Nat)(p:zH):Int:=if p.2.1=i∧p.2.2.2.2.1≠3 then p.2.2.2.1 else 0
def jE (r s:Int):Int:=if s≥r then 0 else r-s
theorem vSk {r s t}(hs:0≤s)(ht:0≤t):jE (jE r s) t=jE r (s+t):=by
 unfold jE;omega
theorem Yt {r}(hr:0≤r):jE r 0=r:=by
 unfold jE;omega
theorem vQ4 {r s}:0≤jE r s:=by
 unfold jE;omega
theorem vVv {r s}(hr:0≤r)(hs:0≤s):jE r s≤r:=by
 unfold jE;omega
section
variable {n:Nat} {p:zH}
theorem Yu (h:yN n p) i:-1099511627776≤gB i p∧gB i p≤1099511627776:=by
 have h1:=h.a1;have h2:=h.a2;unfold gB;omega
theorem Yv (h:yN n p) i j:0≤gS i j p∧gS i j p≤1099511627776:=by
 have h1:=h.a1;have h2:=h.a2;unfold gS;omega
theorem PX (h:yN n p) i:0≤gR i p∧gR i p≤1099511627776:=by
 have h1:=h.a1;have h2:=h.a2;unfold gR;omega
end
def wH (n:Nat)(l:List zH):Prop:=(∀p∈l,yN n p)∧l.length≤64
theorem Yw {n l}(h:wH n l) i:-70368744177664≤zP (gB i) l∧zP (gB i) l≤70368744177664:=by
 have h1:=BJ (g:=gB i) (A:=1099511627776) fun p hp=>Yu (h.1 p hp) i
 have h2:=h.2;omega
theorem uC {n l}(h:wH n l) i j:0≤zP (gS i j) l∧zP (gS i j) l≤70368744177664:=by
 have h1:=BJ (g:=gS i j) (A:=1099511627776) fun p hp=>by have:=Yv (h.1 p hp) i j;omega
 have h0:=xD (g:=gS i j) fun p hp=>(Yv (h.1 p hp) i j).1
 have h2:=h.2;omega
theorem BU {n l}(h:wH n l) i:0≤zP (gR i) l∧zP (gR i) l≤70368744177664:=by
 have h1:=BJ (g:=gR i) (A:=1099511627776) fun p hp=>by have:=PX (h.1 p hp) i;omega
 have h0:=xD (g:=gR i) fun p hp=>(PX (h.1 p hp) i).1
 have h2:=h.2;omega
theorem wH.take {n l}(h:wH n l) i:wH n (l.take i):=⟨fun p hp=>h.1 p (by grind),by rw[bP];have:=h.2;omega⟩
structure uD (n:Nat) (a:List qY) (p:EQ) (l:List zH) (a':List qY) (p':EQ):Prop where
 al:a'.length=n
 acct:∀i,i<n→a'.getD i ad=((a.getD i ad).1+zP (gB i) l,(a.getD i ad).2.1,jE (a.getD i ad).2.2 (zP (gR i) l))
 pl:p'.length=n
 pr:∀i,i<n→(p'.getD i []).length=n
 cell:∀i,i<n→∀j,j<n→cell p' i j=cell p i j+zP (gS i j) l-zP (gS j i) l
theorem vYs {n p q}(hp:p.length=n)(hq:q.length=n)(pj:∀i,i<n→(p.getD i []).length=n)(hqr:∀i,i<n→(q.getD i []).length=n)(h:∀i,i<n→∀j,j<n→cell p i j=cell q i j):p=q:=
 EK [] (by omega) fun i hi=>EK 0 (by simp_all) fun j hj=>h i (by omega) j (by simp_all)
theorem uD.same {n a a1 a2 p p1 p2 l}(x:uD n a p l a1 p1)(y:uD n a p l a2 p2):a1=a2∧p1=p2:=
 ⟨EK ad (by rw[x.al,y.al]) fun i hi=>by have:=x.al;rw[x.acct i (by omega),y.acct i (by omega)],
  vYs x.pl y.pl x.pr y.pr fun i hi j hj=>by rw[x.cell i hi j hj,y.cell i hi j hj]⟩
structure PY (n:Nat) (a:List qY) (p:EQ):Prop where
 al:a.length=n
 pl:p.length=n
 pr:∀i,i<n→(p.getD i []).length=n
 bal:∀i,i<n→-4611686018427387904<(a.getD i ad).1∧(a.getD i ad).1<4611686018427387904
 res:∀i,i<n→0≤(a.getD i ad).2.2∧(a.getD i ad).2.2≤2305843009213693952
 net:∀i,i<n→∀j,j<n→-72057594037927936<cell p i j∧cell p i j<72057594037927936
theorem wS.nums {a b m p}(h:wS a b m p):PY a.length a p where
 al:=rfl
 pl:=h.pl
 pr:=h.pr
 bal:=fun i hi=>by
  have:=h.acct i hi;show-4611686018427387904<(a.getD i (0,0,0)).1∧(a.getD i (0,0,0)).1<4611686018427387904;simp only[fJ,aR,aZ] at this;omega
 res:=fun i hi=>by
  have:=h.acct i hi;show 0≤(a.getD i (0,0,0)).2.2∧(a.getD i (0,0,0)).2.2≤2305843009213693952;simp only[fJ,aR,aZ] at this;omega
 net:=fun i hi j hj=>by
  have:=h.net i hi j hj;simp[iD] at this;omega
theorem Yx {m f t i j x}(hf:f<m.length)(ht:t<(m.getD f []).length):cell (m.set f ((m.getD f []).set t x)) i j=if i=f∧j=t then x else cell m i j:=by
 unfold cell;grind
theorem PZ {n}{m:EQ}{f t x}(hm:m.length=n)(hr:∀i,i<n→(m.getD i []).length=n)(hf:f<n):∀i,i<n→((m.set f ((m.getD f []).set t x)).getD i []).length=n:=by
 grind
def Fp (p:zH)(r:List qY):List qY:=
 let y0:=r.set p.2.1.toNat (zA ((r.getD p.2.1.toNat ad).1-p.2.2.2.1),(r.getD p.2.1.toNat ad).2);let y1:=y0.set p.2.2.1.toNat (zA ((y0.getD p.2.2.1.toNat ad).1+p.2.2.2.1),(y0.getD p.2.2.1.toNat ad).2)
 bif !decide (p.2.2.2.2.1=3) then y1.set p.2.1.toNat ((y1.getD p.2.1.toNat ad).1,((y1.getD p.2.1.toNat ad).2.1,yC false (zA ((y1.getD p.2.1.toNat ad).2.2-p.2.2.2.1)) 0)) else y1
def xM (p:zH)(m:EQ):EQ:=
 let y3:=m.set p.2.1.toNat ((m.getD p.2.1.toNat []).set p.2.2.1.toNat (zA ((m.getD p.2.1.toNat []).getD p.2.2.1.toNat 0+p.2.2.2.1)))
 y3.set p.2.2.1.toNat ((y3.getD p.2.2.1.toNat []).set p.2.1.toNat (zA ((y3.getD p.2.2.1.toNat []).getD p.2.1.toNat 0-p.2.2.2.1)))
theorem Yy p r:(Fp p r).length=r.length:=by
 unfold Fp;grind
theorem vM4 {n p}(h:yN n p){r}(hr:r.length=n){i}(hi:i<n)(hb:∀i,i<n→-4611826755915743232<(r.getD i ad).1∧(r.getD i ad).1<4611826755915743232)
  (hz:∀i,i<n→0≤(r.getD i ad).2.2∧(r.getD i ad).2.2≤2305843009213693952):(Fp p r).getD i ad=((r.getD i ad).1+gB i p,(r.getD i ad).2.1,jE (r.getD i ad).2.2 (gR i p)):=by
 obtain⟨f0,f1,t0,t1,ne,a1,a2,c1,c3⟩:=h;obtain⟨f,hf⟩:∃f:Nat,p.2.1=f:=⟨p.2.1.toNat,by omega⟩;obtain⟨t,ht⟩:∃t:Nat,p.2.2.1=t:=⟨p.2.2.1.toNat,by omega⟩;have P0:f≠t:=by omega
 have iE:f<n:=by omega
 have g9:t<n:=by omega
 have bf:=hb f iE;have bt:=hb t g9;have zf:=hz f iE;have e1:(r.set f (zA ((r.getD f ad).1-p.2.2.2.1),(r.getD f ad).2)).getD t ad=r.getD t ad:=by rw[fH,if_neg (fun e=>P0 e.1)]
 have key:∀j,j<n→((r.set f (zA ((r.getD f ad).1-p.2.2.2.1),(r.getD f ad).2)).set t (zA ((r.getD t ad).1+p.2.2.2.1),(r.getD t ad).2)).getD j ad=((r.getD j ad).1+gB j p,(r.getD j ad).2):=by
  intro j hj;unfold gB;rw[hf,ht,fH];by_cases hjt:t=j
  ·subst hjt;rw[if_pos (by grind),if_pos rfl,if_neg (by omega),zO (by omega) (by omega)];simp
  ·rw[if_neg (fun e=>hjt e.1),if_neg (by omega),fH];by_cases hjf:f=j
   ·subst hjf;rw[if_pos ⟨rfl,by omega⟩,if_pos rfl,zO (by omega) (by omega)];simp only[Int.zero_sub];rfl
   ·rw[if_neg (fun e=>hjf e.1),if_neg (by omega)];simp
 unfold Fp;simp only[hf,ht,ao,e1];unfold gR;cases hc:decide (p.2.2.2.2.1=3) with
 |true=>
  have lT:p.2.2.2.2.1=3:=by simpa using hc
  simp only[az,ak];rw[key i hi,if_neg (fun e=>e.2 lT),Yt (hz i hi).1]
 |false=>
  have lT:p.2.2.2.2.1≠3:=by simpa using hc
  simp only[bO,ai];rw[fH];by_cases hif:f=i
  ·subst hif;rw[if_pos (by grind),key f iE,if_pos ⟨hf,lT⟩];have:yC false (zA ((r.getD f ad).2.2-p.2.2.2.1)) 0=jE (r.getD f ad).2.2 p.2.2.2.1:=by
    rw[zO (by omega) (by omega)];unfold yC jE;grind
   rw[this]
  ·rw[if_neg (fun e=>hif e.1),key i hi,if_neg (by omega),Yt (hz i hi).1]
theorem vCm {n:Nat}{p:zH}(h:yN n p){m:EQ}(hm:m.length=n)(hr:∀i,i<n→(m.getD i []).length=n)(hb:∀i,i<n→∀j,j<n→-72128000000000000<cell m i j∧cell m i j<72128000000000000):
  (xM p m).length=n∧(∀i,i<n→((xM p m).getD i []).length=n)∧∀i,i<n→∀j,j<n→cell (xM p m) i j=cell m i j+gS i j p-gS j i p:=by
 obtain⟨f0,f1,t0,t1,ne,a1,a2,c1,c3⟩:=h;obtain⟨f,hf⟩:∃f:Nat,p.2.1=f:=⟨p.2.1.toNat,by omega⟩;obtain⟨t,ht⟩:∃t:Nat,p.2.2.1=t:=⟨p.2.2.1.toNat,by omega⟩;have P0:f≠t:=by omega
 have iE:f<n:=by omega
 have g9:t<n:=by omega
 unfold xM;simp only[hf,ht,ao];have r1:=PZ (x:=zA ((m.getD f []).getD t 0+p.2.2.2.1)) (t:=t) hm hr iE;have c1:∀i j,cell (m.set f ((m.getD f []).set t (zA ((m.getD f []).getD t 0+p.2.2.2.1)))) i j=if i=f∧j=t then zA (cell m f t+p.2.2.2.1) else cell m i j:=fun i j=>Yx (by omega) (by rw[hr f iE];omega)
 refine⟨by simp only[List.length_set];exact hm,by grind,fun i hi j hj=>?_⟩;rw[Yx (by rw[List.length_set];omega) (by rw[r1 t g9];omega)];have e2:((m.set f ((m.getD f []).set t (zA ((m.getD f []).getD t 0+p.2.2.2.1)))).getD t []).getD f 0=cell m t f:=by
  show cell _ t f=_;simp_all
 rw[e2,c1];unfold gS;rw[hf,ht];have b1:=hb f iE t g9;have b2:=hb t g9 f iE;by_cases h1:i=t∧j=f
 ·obtain⟨rfl,rfl⟩:=h1;rw[if_pos ⟨rfl,rfl⟩,if_neg (by omega),if_pos ⟨rfl,rfl⟩,zO (by omega) (by omega)];omega
 ·rw[if_neg h1];by_cases h2:i=f∧j=t
  ·obtain⟨rfl,rfl⟩:=h2;rw[if_pos ⟨rfl,rfl⟩,if_pos ⟨rfl,rfl⟩,if_neg (by omega),zO (by omega) (by omega)];omega
  omega
theorem Yz {k n a b m p l}(hk:l.length<k)(hx:PY n a p)(hl:wH n l)(b0:List qY) b1 b2 b3:
  ∃a' p',Fq k k l l.length 0 b0 b1 b2 b3 a b m p=some (b0,b1,b2,b3,a',b,m,p')∧uD n a p l a' p':=by
 have := yZ (L := fun c i (s : List qY × EQ) => Fq k c l l.length i b0 b1 b2 b3 s.1 b m s.2) (N := l.length) (fun s => (b0, b1, b2, b3, s.1, b, m, s.2)) (fun i s => uD n a p (l.take i) s.1 s.2) (fun c s hs=>by
   show Fs k _ l l.length l.length b0 b1 b2 b3 s.1 b m s.2=_;unfold Fs;simp) (fun c i s hi hs=>by
   refine⟨(Fp (l.getD i pd) s.1,xM (l.getD i pd) s.2),?_,?_⟩
   ·show Fs k _ l l.length i b0 b1 b2 b3 s.1 b m s.2=_;have bZ:yN n (l.getD i pd):=hl.1 _ (jY hi);unfold Fs Fp xM;have nZ:=hl.2;simp only[zY,qB hi (by grind),qS,ao,aa hi,ai];obtain⟨f0,f1,t0,t1,ne,a1,a2,c1,c3⟩:=bZ;obtain⟨f,hf⟩:∃f:Nat,(l.getD i pd).2.1=f:=⟨(l.getD i pd).2.1.toNat,by omega⟩;obtain⟨t,ht⟩:∃t:Nat,(l.getD i pd).2.2.1=t:=⟨(l.getD i pd).2.2.1.toNat,by omega⟩;have iE:f<n:=by omega
    have g9:t<n:=by omega
    have r1:=PZ (x:=zA ((s.2.getD f []).getD t 0+(l.getD i pd).2.2.2.1)) (t:=t) hs.pl hs.pr iE;simp only[hf,ht,ao,zY,hs.al,hs.pl,List.length_set,hs.pr f iE,r1 t g9,aa iE,aa g9,ai,xN,ae];grind
   ·have bZ:yN n (l.getD i pd):=hl.1 _ (jY hi);have aT:=hl.take i;have hp := vCm bZ hs.pl hs.pr (fun i' bJ j' mO=>by
     rw[hs.cell i' bJ j' mO];have h1:=hx.net i' bJ j' mO;have h2:=uC aT i' j';have h3:=uC aT j' i';omega)
    refine⟨by rw[Yy];exact hs.al,fun i' bJ=>?_,hp.1,hp.2.1,fun i' bJ j' mO=>?_⟩
    ·rw [vM4 bZ hs.al bJ (fun j hj=>by
       rw[hs.acct j hj];have h1:=hx.bal j hj;have h2:=Yw aT j;dsimp only;omega) (fun j hj=>by
       rw[hs.acct j hj];have h1:=hx.res j hj;have h2:=BU aT j;dsimp only;exact⟨vQ4,Int.le_trans (vVv h1.1 h2.1) h1.2⟩),hs.acct i' bJ,←fG l i pd hi,kO,kO]
     dsimp only[zP];rw[vSk (BU aT i').1 (PX bZ i').1,Int.add_zero,Int.add_zero,Int.add_assoc]
    ·rw[hp.2.2 i' bJ j' mO,hs.cell i' bJ j' mO,←fG l i pd hi,kO,kO];dsimp only[zP];omega) (s:=(a,p)) hk ⟨hx.al,fun i hi=>by
      rw[List.take_zero];show a.getD i ad=((a.getD i ad).1+0,(a.getD i ad).2.1,jE (a.getD i ad).2.2 0);rw[Yt (hx.res i hi).1,Int.add_zero],hx.pl,hx.pr,fun i hi j hj=>by
      rw[List.take_zero];show cell p i j=cell p i j+0-0;omega⟩
 simp_all
theorem YA {k n l}(hk:l.length<k)(hl:wH n l)(i j:Nat):xO k l i j=some (zP (gS i j) l):=by
 have nZ:=hl.2;obtain ⟨s, h1, h2⟩ := yZ (L := fun c x (s : Int) => K7 k c l i j s x) (N := l.length) (fun s => s) (fun x s => s = zP (gS i j) (l.take x)) (fun c s hs=>by
   show Ft k _ l i j s l.length=_;unfold Ft;simp) (fun c x s hx hs=>by
   refine⟨zP (gS i j) (l.take (x+1)),?_,rfl⟩;show Ft k _ l i j s x=_;have hb:=uC (hl.take x) i j;have hm:yN n (l.getD x pd):=hl.1 _ (by grind);have e:zP (gS i j) (l.take (x+1))=s+gS i j (l.getD x pd):=by
    rw[←fG l x pd hx,kO,hs];show _+(_+0)=_;omega
   have w:=zO (x:=s+(l.getD x pd).2.2.2.1) (by have:=hm.a1;omega) (by have:=hm.a2;omega);unfold Ft;simp[zY,qB hx (by grind)];rw[e];unfold gS;grind) (s:=0) hk rfl
 unfold xO;simp_all
theorem vSi {k n l}(hk:l.length<k)(hl:wH n l)(i j:Nat):P1 k l i j=some (zP (gS i j) l-zP (gS j i) l):=by
 unfold P1;rw[YA hk hl i j,YA hk hl j i];have h1:=uC hl i j;have h2:=uC hl j i;simp;rw[zO (by omega) (by omega)]
def gN (i:Nat)(p:zH):Int:=if p.2.1=i∧p.2.2.2.2.1=3 then p.2.2.2.1 else 0
theorem P2 {n p}(h:yN n p) i:0≤gN i p∧gN i p≤1099511627776:=by
 have h1:=h.a1;have h2:=h.a2;unfold gN;omega
theorem vDk {n l}(h:wH n l) i:0≤zP (gN i) l∧zP (gN i) l≤70368744177664:=by
 have h1:=BJ (g:=gN i) (A:=1099511627776) fun p hp=>by have:=P2 (h.1 p hp) i;omega
 have h0:=xD (g:=gN i) fun p hp=>(P2 (h.1 p hp) i).1
 have h2:=h.2;omega
theorem yWh {k n:Nat}{l}(hk:l.length<k)(hl:wH n l)(i:Nat):K8 k l i=some (zP (gN i) l,zP (gR i) l):=by
 have nZ:=hl.2;obtain ⟨s, h1, h2⟩ := yZ (L := fun c x (s : Int × Int) => K9 k c l i s.1 s.2 x) (N := l.length) (fun s => s) (fun x s => s = (zP (gN i) (l.take x), zP (gR i) (l.take x))) (fun c s hs=>by
   show Fu k _ l i s.1 s.2 l.length=_;unfold Fu;simp) (fun c x s hx hs=>by
   refine⟨(zP (gN i) (l.take (x+1)),zP (gR i) (l.take (x+1))),?_,rfl⟩;show Fu k _ l i s.1 s.2 x=_;have hb:=vDk (hl.take x) i;have bg:=BU (hl.take x) i;have hm:yN n (l.getD x pd):=hl.1 _ (by grind);have e:zP (gN i) (l.take (x+1))=s.1+gN i (l.getD x pd):=by
    rw[←fG l x pd hx,kO,hs];show _+(_+0)=_;omega
   have e':zP (gR i) (l.take (x+1))=s.2+gR i (l.getD x pd):=by
    rw[←fG l x pd hx,kO,hs];show _+(_+0)=_;omega
   have w:=zO (x:=s.1+(l.getD x pd).2.2.2.1) (by have:=hm.a1;grind) (by have:=hm.a2;grind);have w':=zO (x:=s.2+(l.getD x pd).2.2.2.1) (by have:=hm.a1;rw[hs];omega) (by have:=hm.a2;grind);unfold Fu;simp only[zY,qB hx (by grind),qS,ai];rw[e,e'];unfold gN gR;grind) (s:=(0,0)) hk rfl
 unfold K8;simp_all
theorem YB {k n l}(hk:l.length<k)(hl:wH n l)(i:Nat):P3 k l i=some (zP (gR i) l):=by
 unfold P3;rw[yWh hk hl i];rfl
theorem vA4 k b c r s (h:-9223372036854775808≤r-s)(h':r<9223372036854775808)(hs:0≤s):La k b c r s=some (jE r s):=by
 unfold La jE;by_cases e:s≥r
 ·simp_all
 ·rw[ab e,if_neg e,zO h (by omega)];rfl
theorem vBz {n l}(hl:∀p∈l,yN n p) i (hi:i<n):qG (fun j=>zP (gS i j) l-zP (gS j i) l) n= -zP (gB i) l:=by
 have e1:qG (fun j=>zP (gS i j) l-zP (gS j i) l) n=qG (fun j=>zP (fun p=>gS i j p-gS j i p) l) n:=sH fun j _=>(XP _ _ l).symm
 rw[e1,Pu (fun j p=>gS i j p-gS j i p)];have e2:∀p∈l,qG (fun j=>gS i j p-gS j i p) n=0-gB i p:=by
  intro p hp;obtain⟨f0,f1,t0,t1,ne,a1,a2,c1,c3⟩:=hl p hp;obtain⟨f,hf⟩:∃f:Nat,p.2.1=f:=⟨p.2.1.toNat,by omega⟩;obtain⟨t,ht⟩:∃t:Nat,p.2.2.1=t:=⟨p.2.2.1.toNat,by omega⟩;have g1:∀j,gS i j p-gS j i p=(if j=t then(if f=i then p.2.2.2.1 else 0) else 0)+(if j=f then(if t=i then-p.2.2.2.1 else 0) else 0):=by
   unfold gS;omega
  rw[sH fun j _=>g1 j,EJ,BK,BK];unfold gB;omega
 rw[Pt e2,XP];have:zP (fun _:zH=>(0:Int)) l=0:=by
  clear e1 e2 hl
  induction l with
  |nil=>rfl
  |cons p l ih=>show 0+zP _ l=0;omega
 omega
structure YC (n:Nat) (a:List qY) (p:EQ) (l:List zH) (i:Nat) (a':List qY) (p':EQ):Prop where
 al:a'.length=n
 done:∀x,x<n→x<i→a'.getD x ad=((a.getD x ad).1+zP (gB x) l,(a.getD x ad).2.1,jE (a.getD x ad).2.2 (zP (gR x) l))
 rest:∀x,x<n→¬x<i→a'.getD x ad=a.getD x ad
 pl:p'.length=n
 pr:∀x,x<n→(p'.getD x []).length=n
 cell:∀x,x<n→∀y,y<n→cell p' x y=if x<i then cell p x y+zP (gS x y) l-zP (gS y x) l else cell p x y
structure YD (n:Nat) (a:List qY) (p:EQ) (l:List zH) (i j:Nat) (a':List qY) (p':EQ):Prop where
 al:a'.length=n
 done:∀x,x<n→x<i→a'.getD x ad=((a.getD x ad).1+zP (gB x) l,(a.getD x ad).2.1,jE (a.getD x ad).2.2 (zP (gR x) l))
 here:a'.getD i ad=((a.getD i ad).1-qG (fun j=>zP (gS i j) l-zP (gS j i) l) j,(a.getD i ad).2.1,jE (a.getD i ad).2.2 (zP (gR i) l))
 rest:∀x,x<n→i<x→a'.getD x ad=a.getD x ad
 pl:p'.length=n
 pr:∀x,x<n→(p'.getD x []).length=n
 cell:∀x,x<n→∀y,y<n→cell p' x y=if x<i∨(x=i∧y<j) then cell p x y+zP (gS x y) l-zP (gS y x) l else cell p x y
theorem YE {k n a p l}(hk:n<k)(bL:l.length<k)(hn:n≤1000)(hx:PY n a p)(hl:wH n l){i}(hi:i<n)(b0:List qY) b1 b2 b3 b m
  {a0 p0} (h0:YD n a p l i 0 a0 p0):∃a' p',Fv k k l i 0 b0 b1 b2 b3 a0 b m p0=some (l,(i:Int),b0,b1,b2,b3,a',b,m,p')∧YD n a p l i n a' p':=by
 obtain ⟨s, h1, h2⟩ := yZ (L := fun c j (s : List qY × EQ) => Fv k c l i j b0 b1 b2 b3 s.1 b m s.2) (N := n) (fun s => (l, (i : Int), b0, b1, b2, b3, s.1, b, m, s.2)) (fun j s => YD n a p l i j s.1 s.2) (fun c s hs=>by
   show Fw k _ l i n b0 b1 b2 b3 s.1 b m s.2=_;unfold Fw;simp only [qS, hs.al, ab (Nat.lt_irrefl _), ak]) (fun c j s hj hs=>by
   refine⟨(s.1.set i (zA ((s.1.getD i ad).1-(zP (gS i j) l-zP (gS j i) l)),(s.1.getD i ad).2),s.2.set i ((s.2.getD i []).set j (zA ((s.2.getD i []).getD j 0+(zP (gS i j) l-zP (gS j i) l))))),?_,?_⟩
   ·show Fw k _ l i j b0 b1 b2 b3 s.1 b m s.2=_;unfold Fw;simp only[zY,qB hj (by grind),qS,ao,hs.al,hs.pl,hs.pr i hi,aa hi,aa hj,ai,vSi bL hl,ae]
   ·have hb:=hx.bal i hi;have hg:∀j,-70368744177664≤zP (gS i j) l-zP (gS j i) l∧zP (gS i j) l-zP (gS j i) l≤70368744177664:=fun j=>by
     have h1:=uC hl i j;have h2:=uC hl j i;omega
    have Ej:=xE hg j;have EG:=hg j;have ql:=hx.net i hi j hj;have hc:=hs.cell i hi j hj;rw[if_neg (by omega)] at hc;refine⟨by simp only[List.length_set];exact hs.al,fun x kf xP=>?_,?_,fun x kf xP=>?_,by simp only[List.length_set];exact hs.pl,PZ hs.pl hs.pr hi,fun x kf y Lb=>?_⟩
    ·rw[fH,if_neg (by grind)];exact hs.done x kf xP
    ·rw[fH,if_pos ⟨rfl,by rw[hs.al];exact hi⟩,hs.here];dsimp only;rw[zO (by omega) (by omega)];show(_,_)=((a.getD i ad).1-(qG _ j+_),_);grind
    ·rw[fH,if_neg (by grind)];exact hs.rest x kf xP
    ·have e:(s.2.getD i []).getD j 0=cell p i j:=hc;rw[Yx (by rw[hs.pl];exact hi) (by rw[hs.pr i hi];exact hj),e];by_cases P4:x=i∧y=j
     ·obtain⟨rfl,rfl⟩:=P4;rw[if_pos ⟨rfl,rfl⟩,if_pos (by omega),zO (by omega) (by omega)];omega
     ·rw[if_neg P4,hs.cell x kf y Lb];omega) (s:=(a0,p0)) hk h0
 grind
theorem vRn {k n a b m p l}(hk:n<k)(bL:l.length<k)(hn:n≤1000)(hx:PY n a p)(hl:wH n l)(b0:List qY) b1 b2 b3:
  ∃a' p',Fx k k l 0 b0 b1 b2 b3 a b m p=some (b0,b1,b2,b3,a',b,m,p')∧uD n a p l a' p':=by
 obtain ⟨s, h1, h2⟩ := yZ (L := fun c i (s : List qY × EQ) => Fx k c l i b0 b1 b2 b3 s.1 b m s.2) (N := n) (fun s => (b0, b1, b2, b3, s.1, b, m, s.2)) (fun i s => YC n a p l i s.1 s.2) (fun c s hs=>by
   show Fy k _ l n b0 b1 b2 b3 s.1 b m s.2=_;unfold Fy;simp only [qS, hs.al, ab (Nat.lt_irrefl _), ak]) (fun c i s hi hs=>by
   have hai:=hs.rest i hi (by simp);have hr:=hx.res i hi;have hsp:=BU hl i;obtain⟨a',p',h1,h2⟩:=YE (a0:=s.1.set i ((s.1.getD i ad).1,((s.1.getD i ad).2.1,jE (s.1.getD i ad).2.2 (zP (gR i) l)))) (p0:=s.2) hk bL hn hx hl hi b0 b1 b2 b3 b m ⟨by rw[List.length_set];exact hs.al,fun x kf xP=>by
     rw[fH,if_neg (by grind)];exact hs.done x kf xP,by
     rw[fH,if_pos ⟨rfl,by rw[hs.al];exact hi⟩,hai];show _=((a.getD i ad).1-0,_,_);simp,fun x kf xP=>by
     rw[fH,if_neg (by grind)];exact hs.rest x kf (by omega),hs.pl,hs.pr,fun x kf y Lb=>by
     rw[hs.cell x kf y Lb];omega⟩
   refine⟨(a',p'),?_,?_⟩
   ·show Fy k _ l i b0 b1 b2 b3 s.1 b m s.2=_;unfold Fy;have hK:=vA4 k (s.1.getD i ad).1 (s.1.getD i ad).2.1 (s.1.getD i ad).2.2 (zP (gR i) l) (by grind) (by grind) hsp.1;simp only[zY,qS,ao,hs.al,aa hi,ai,YB bL hl,ae];rw[hK];simp only[ae];rw[h1];simp only[ae,qB hi (by grind)]
   ·refine⟨h2.al,fun x kf xP=>?_,fun x kf xP=>h2.rest x kf (by omega),h2.pl,h2.pr,fun x kf y Lb=>?_⟩
    ·by_cases h:x<i
     ·exact h2.done x kf h
     ·have:x=i:=by omega
      subst this;rw[h2.here,vBz hl.1 x kf];simp
    ·rw[h2.cell x kf y Lb];omega) (s:=(a,p)) hk ⟨hx.al,by simp,by simp,hx.pl,hx.pr,by simp⟩
 exact⟨s.1,s.2,h1,h2.al,fun i hi=>h2.done i hi hi,h2.pl,h2.pr,fun i hi j hj=>by rw[h2.cell i hi j hj,if_pos hi]⟩
def sM (a:List qY)(b:EQ)(m:AC)(p:EQ)(l:List zH)(r:List qY×EQ×AC×EQ×Int):Prop:=
 (wH a.length l→∃a' p',uD a.length a p l a' p'∧r=(bif kP a' b m p' then(a',b,m,p',0) else(a,b,m,p,8)))∧(¬wH a.length l→r=(a,b,m,p,1))
theorem P5 {k}(hk:100<k){a b m p}{l:List zH}(h:wS a b m p)(hl:l.length≤80):∃r,qm k a b m p l=some r∧sM a b m p l r:=by
 unfold qm sM;have e:decide (((l.length:Nat):Int)>64)=decide (¬l.length≤64):=by
  grind
 rw[e];by_cases bQ:l.length≤64
 case neg=>
  rw[aa bQ];exact⟨_,rfl,fun e=>absurd e.2 bQ,by simp⟩
 rw[ab (by omega),Yq (by omega) (by omega)];cases hm:nY a.length l with
 |false=>
  refine⟨_,rfl,fun e=>?_,by simp⟩;rw[BS.2 e.1] at hm;cases hm
 |true=>
  have aT:wH a.length l:=⟨BS.1 hm,bQ⟩;simp only[KY (show 10<k by omega) h.toSized,ae];obtain⟨a',p',h1,h2⟩:=Yz (b:=b) (m:=m) (show l.length<k by omega) h.nums aT a b m p;rw[h1];simp only[ae,vBq (show 10<k by omega)];cases hB:kP a' b m p' with
  |true=>exact⟨_,rfl,by grind,by grind⟩
  |false=>exact⟨_,rfl,by grind,by grind⟩
theorem vX0 {k}(hk:100<k){a b m p}{l:List zH}(h:wS a b m p)(hl:l.length≤80):∃r,BV k a b m p l=some r∧sM a b m p l r:=by
 unfold BV sM;rw[vHr (by omega) (by omega)];cases hm:nY a.length l with
 |false=>
  refine⟨_,rfl,fun e=>?_,by simp⟩;rw[BS.2 e.1] at hm;cases hm
 |true=>
  by_cases bQ:l.length≤64
  case neg=>
   rw[ab bQ];exact⟨_,rfl,fun e=>absurd e.2 bQ,by simp⟩
  have aT:wH a.length l:=⟨BS.1 hm,bQ⟩;have h6:=h.n6;rw[aa bQ];simp only[KX (show 10<k by omega) h.toSized,ae];obtain⟨a',p',h1,h2⟩:=vRn (b:=b) (m:=m) (show a.length<k by omega) (by grind) (by omega) h.nums aT a b m p;rw[h1];simp only[ae,vDh (show 10<k by omega)];cases hB:kP a' b m p' with
  |true=>exact⟨_,rfl,by grind,by grind⟩
  |false=>exact⟨_,rfl,by grind,by grind⟩
theorem sM.same {a b m p l r r'}(h:sM a b m p l r)(h':sM a b m p l r'):r=r':=by
 by_cases c:wH a.length l
 ·obtain⟨a1,p1,x,rfl⟩:=h.1 c;obtain⟨a2,p2,y,rfl⟩:=h'.1 c;obtain⟨rfl,rfl⟩:=x.same y;rfl
 ·rw[h.2 c,h'.2 c]
theorem vT3 {k n i p}(hk:n<k)(hn:n≤100)(hi:i<n)(hp:p.length=n)(hr:(p.getD i []).length=n)(hb:∀j,-72057594037927936≤cell p i j∧cell p i j≤72057594037927936)(a:List qY) b m:
  P6 k a b m p i=some (qG (cell p i) n):=by
 obtain ⟨s, h1, h2⟩ := yZ (L := fun c j (s : Int) => Fz k c i s j a b m p) (N := n) (fun s => s) (fun j s => s = qG (cell p i) j) (fun c s hs=>by
   show FA k _ i s n a b m p=_;unfold FA;simp only [zY, qS, ao, hp, hr, aa hi, ab (Nat.lt_irrefl _), ak, ai]) (fun c j s hj hs=>by
   refine⟨qG (cell p i) (j+1),?_,rfl⟩;show FA k _ i s j a b m p=_;have h1:=xE hb j;have h2:=hb j;unfold FA;simp only[zY,qB hj (by grind),qS,ao,hp,hr,aa hi,aa hj];show Fz k c i (zA (s+cell p i j)) _ a b m p=_;rw[hs,zO (by omega) (by omega)];rfl) (s:=0) hk rfl
 unfold P6;simp_all
theorem P7 {a b m p}(hb:wS a b m p){i}(hi:i<a.length) j:-72057594037927936≤cell p i j∧cell p i j≤72057594037927936:=by
 by_cases hj:j<a.length
 ·have:=hb.net i hi j hj;simp[iD] at this;omega
 ·have:cell p i j=0:=by
   unfold cell;rw[bY,List.getElem?_eq_none]
   ·rfl
   ·rw[hb.pr i hi];omega
  omega
theorem Lc {S X:Type}{L:Nat→Int→S→Option X}{N} ok (e:S→X) b (inv:Nat→S→Prop)(bM:∀n s,inv N s→L (n+1) (N:Int) s=some (e s))
  (aI:∀n i s,i<N→inv i s→(ok i=true→∃s',L (n+1) (i:Int) s=L n ((i+1:Nat):Int) s'∧inv (i+1) s')∧(ok i=false→L (n+1) (i:Int) s=some b)):
  ∀c i n s,i+c=N→c<n→inv i s→(zZ ok c i=true∧∃s',L n (i:Int) s=some (e s')∧inv N s')∨(zZ ok c i=false∧L n (i:Int) s=some b)
 |0,i,n,s,h,hn,hs=>by
  obtain⟨n,rfl⟩:∃m,n=m+1:=⟨n-1,by omega⟩;have:i=N:=by omega
  subst this;exact .inl ⟨rfl,s,bM n s hs,hs⟩
 |c+1,i,n,s,h,hn,hs=>by
  obtain⟨n,rfl⟩:∃m,n=m+1:=⟨n-1,by omega⟩;obtain⟨h1,h2⟩:=aI n i s (by omega) hs;unfold zZ;cases ho:ok i with
  |true=>
   obtain⟨s',h3,h4⟩:=h1 ho;rw[h3];exact Lc ok e b inv bM aI c (i+1) n s' (by omega) (by omega) h4
  |false=>simp_all
def dS (l:List zH)(i j:Nat):Int:=zP (gS i j) l-zP (gS j i) l
def uE (b p:EQ)(l:List zH)(i j:Nat):Bool:= !(decide (zP (gS i j) l>0)&&(!decide (cell b i j= -1)&&decide (cell p i j+dS l i j>cell b i j)))
def hY (a:List qY)(b:EQ)(m:AC)(p:EQ)(l:List zH)(i:Nat):Bool:=
 !decide (zP (gN i) l + zP (gR i) l = 0) && (!zZ (uE b p l i) a.length 0 || (decide ((a.getD i ad).1+(a.getD i ad).2.1+zP (gB i) l<0)||
  ((decide (zP (gN i) l>0)&&decide ((a.getD i ad).1+(a.getD i ad).2.1+zP (gB i) l<jE (a.getD i ad).2.2 (zP (gR i) l)))||
   (!decide (m.getD i 0= -1)&&decide (qG (cell p i) a.length-zP (gB i) l>m.getD i 0)))))
theorem FB {n l}(hl:wH n l) i j:-70368744177664≤dS l i j∧dS l i j≤70368744177664:=by
 have h1:=uC hl i j;have h2:=uC hl j i;unfold dS;omega
theorem vOx {k:Nat}{a:List qY}{b:EQ}{m:AC}{p:EQ}{l:List zH}(hk:100<k)(hb:wS a b m p)(hl:wH a.length l){i:Nat}(hi:i<a.length)(x y n0 dU:Int)
  (Eh:-6917529027641081856≤n0∧n0≤6917529027641081856) (ql:-576460752303423488≤dU∧dU≤576460752303423488):
  sN k k l i x y n0 dU 0 a b m p=some (bif zZ (uE b p l i) a.length 0 then .inl ((i:Int),x,y,n0-qG (dS l i) a.length,dU+qG (dS l i) a.length,a,b,m,p) else .inr true):=by
 have h6:=hb.n6;have bL:l.length<k:=by have:=hl.2;omega
 have := Lc (L := fun c j (s : Int × Int) => sN k c l i x y s.1 s.2 j a b m p) (N := a.length) (uE b p l i) (fun s => .inl ((i : Int), x, y, s.1, s.2, a, b, m, p)) (.inr true) (fun j s => s = (n0 - qG (dS l i) j, dU + qG (dS l i) j)) (fun c s hs=>by
   show FC k _ l i x y s.1 s.2 a.length a b m p=_;unfold FC;simp only [qS, ab (Nat.lt_irrefl _), ak]) (fun c j s hj hs=>by
   have Ej:=xE (fun j=>FB hl i j) j;have EG:=FB hl i j;have hj1:(j:Int)*70368744177664≤6*70368744177664:=by omega
   have ql:=hb.nums.net i hi j hj;have e1:sN k (c+1) l i x y s.1 s.2 j a b m p=bif uE b p l i j then sN k c l i x y (n0-qG (dS l i) (j+1)) (dU+qG (dS l i) (j+1)) ((j+1:Nat):Int) a b m p else some (.inr true):=by
    show FC k _ l i x y s.1 s.2 j a b m p=_;unfold FC;simp only[zY,qB hj (show a.length<9223372036854775808 by omega),qS,ao,aa hi,aa hj,ai,YA bL hl,ae,hb.bl,hb.br i hi,hb.pl,hb.pr i hi];have ed:zA (zP (gS i j) l-zP (gS j i) l)=dS l i j:=zO (by have:=EG.1;unfold dS at this;omega) (by have:=EG.2;unfold dS at this;omega);rw[ed];have e2:zA (s.1-dS l i j)=n0-qG (dS l i) (j+1):=by
     rw[hs];show zA (n0-qG (dS l i) j-dS l i j)=n0-(qG (dS l i) j+dS l i j);rw[zO (by omega) (by omega)];omega
    have e3:zA (s.2+dS l i j)=dU+qG (dS l i) (j+1):=by
     rw[hs];show zA (dU+qG (dS l i) j+dS l i j)=dU+(qG (dS l i) j+dS l i j);rw[zO (by omega) (by omega)];omega
    rw[e2,e3];show(bif decide (zP (gS i j) l>0) then(bif !decide (cell b i j= -1) then(bif decide (zA (cell p i j+dS l i j)>cell b i j) then _ else _) else _) else _)=_;rw[zO (x:=cell p i j+dS l i j) (by omega) (by omega)];unfold uE;cases decide (zP (gS i j) l>0)<;>cases decide (cell b i j= -1)<;>cases decide (cell p i j+dS l i j>cell b i j)<;>rfl
   refine⟨fun ho=>⟨_,?_,rfl⟩,fun ho=>?_⟩
   ·rw[e1,ho];rfl
   ·rw [e1, ho]; rfl) a.length 0 k (n0, dU) (by omega) (by omega) (by
    show(n0,dU)=(n0-0,dU+0);rw[Int.sub_zero,Int.add_zero])
 rcases this with⟨h1,s,h2,h3⟩|⟨h1,h2⟩
 ·have P8:sN k k l i x y n0 dU 0 a b m p=_:=h2;rw[P8,h1,h3];rfl
 ·have P8:sN k k l i x y n0 dU 0 a b m p=_:=h2;rw[P8,h1];rfl
theorem vG0 {n l}(hl:∀p∈l,yN n p) i (hi:i<n):qG (dS l i) n= -zP (gB i) l:=vBz hl i hi
theorem yWe {k a b m p l}(hk:100<k)(hb:wS a b m p)(hl:wH a.length l){i}(hi:i<a.length):P9 k a b m p l i=some (hY a b m p l i):=by
 have h6:=hb.n6;have bL:l.length<k:=by have:=hl.2;omega
 have hN:=vDk hl i;have hR:=BU hl i;have hx:=hb.acct i hi;simp only[fJ,aR,aZ] at hx;have qn:-4611686018427387904<(a.getD i ad).1∧(a.getD i ad).1<4611686018427387904∧0≤(a.getD i ad).2.1∧(a.getD i ad).2.1≤2305843009213693952∧0≤(a.getD i ad).2.2∧(a.getD i ad).2.2≤2305843009213693952:=by grind
 have ql:=xE (P7 hb hi) a.length;unfold P9;rw[yWh bL hl];simp only[ae];rw[zO (x:=zP (gN i) l+zP (gR i) l) (by omega) (by omega)];unfold hY;cases hz:decide (zP (gN i) l+zP (gR i) l=0) with
 |true=>rfl
 |false=>
  rw[zY,aa hi];simp only[ao];rw[vT3 (by omega) (by omega) hi hb.pl (hb.pr i hi) (P7 hb hi)];simp only[ae];rw[zO (x:=(a.getD i (0,(0,0))).1+(a.getD i (0,(0,0))).2.1) (by omega) (by omega)];rw[vOx hk hb hl hi _ _ _ _ (by omega) (by omega),vG0 hl.1 i hi];cases zZ (uE b p l i) a.length 0 with
  |false=>rfl
  |true=>
   have hK:=vA4 k (a.getD i ad).1 (a.getD i ad).2.1 (a.getD i ad).2.2 (zP (gR i) l) (by omega) (by omega) hR.1;simp[zY,hb.ml];grind
theorem YF {k:Nat}{a:List qY}{b:EQ}{m:AC}{p:EQ}{l:List zH}(hk:100<k)(hb:wS a b m p)(hl:wH a.length l):∃r,uF k a b m p l=some r∧(r=[]↔zZ (fun i=> !hY a b m p l i) a.length 0=true):=by
 have h6:=hb.n6;obtain ⟨r, h1, h2⟩ := yZ (L := fun c i (r : AC) => uG k c l i a b m p r) (N := a.length) (fun r => r) (fun i r => (r = [] ↔ ∀ j, j < i → hY a b m p l j = false) ∧ r.length ≤ i) (fun c r hr=>by
   show sQ k _ l a.length a b m p r=_;unfold sQ;simp only [qS, ab (Nat.lt_irrefl _), ak]) (fun c i r hi hr=>by
   have aY:zM (r.length+1) 8=true:=qE (by omega) (by omega);have e:uG k (c+1) l i a b m p r=uG k c l ((i+1:Nat):Int) a b m p (bif hY a b m p l i then r++[(i:Int)] else r):=by
    show sQ k _ l i a b m p r=_;unfold sQ;simp only[qB hi (show a.length<9223372036854775808 by omega),qS,aa hi,ai,yWe hk hb hl hi,ae,aY];cases hY a b m p l i<;>rfl
   refine⟨_,e,?_⟩;cases hs:hY a b m p l i with
   |true=>
    refine⟨⟨fun h=>?_,fun h=>?_⟩,by simp only[ai,ay,List.length_cons,List.length_nil];omega⟩
    ·simp at h
    ·rw[h i (Nat.lt_succ_self i)] at hs;cases hs
   |false=>
    refine⟨⟨fun h j hj=>?_,fun h=>?_⟩,by simp only[ak];omega⟩
    ·by_cases c:j=i
     ·subst c;exact hs
     ·exact hr.1.1 h j (by omega)
    ·exact hr.1.2 fun j hj=>h j (by omega)) (s:=[]) (show a.length<k by omega) ⟨⟨fun _ j hj=>absurd hj (Nat.not_lt_zero j),fun _=>rfl⟩,Nat.le_refl 0⟩
 unfold uF;rw[h1];refine⟨r,rfl,h2.1.trans ?_⟩;rw[wI];exact⟨fun h j hj=>by rw[h j hj];rfl,fun h j hj=>by have:=h j hj;simpa using this⟩
def xQ (a:List qY)(b:EQ)(m:AC)(p:EQ)(l:List zH):Bool:=(nY a.length l&&decide (l.length≤64))&&zZ (fun i=> !hY a b m p l i) a.length 0
theorem vO8 {k a b m p}{l:List zH}(hk:100<k)(hb:wS a b m p)(hl:l.length≤80):Ld k a b m p l=some (xQ a b m p l):=by
 unfold Ld xQ;rw[vHr (by omega) (by omega)];cases hm:(nY a.length l&&decide (l.length≤64)) with
 |false=>rfl
 |true=>
  simp  at hm;obtain⟨r,h1,h2⟩:=YF hk hb ⟨BS.1 hm.1,hm.2⟩;simp_all
theorem vUe {k n i p}(hk:n<k)(hn:n≤100)(hi:i<n)(hp:p.length=n)(hr:(p.getD i []).length=n)(hb:∀j,-72057594037927936≤cell p i j∧cell p i j≤72057594037927936)(a:List qY) b m:
  Qa k a b m p i=some (qG (cell p i) n):=by
 obtain ⟨s, h1, h2⟩ := yZ (L := fun c j (s : Int) => FD k c s (p.getD i []) n j) (N := n) (fun s => s) (fun j s => s = qG (cell p i) j) (fun c s hs=>by
   show FE k _ s (p.getD i []) n n=_;unfold FE;simp) (fun c j s hj hs=>by
   refine⟨qG (cell p i) (j+1),?_,rfl⟩;show FE k _ s (p.getD i []) n j=_;have h1:=xE hb j;have h2:=hb j;unfold FE;simp only[zY,qB hj (by grind),qS,hr,aa hj];show FD k c (zA (s+cell p i j)) _ _ _=_;rw[hs,zO (by omega) (by omega)];rfl) (s:=0) hk rfl
 unfold Qa;simp[zY];simp_all
theorem yVz k {n:Nat}(hn:n≤6):Le k n=some true:=by
 unfold Le;grind
theorem yF9 {α:Type}(v z:α) n i (hi:i<n):(List.replicate i v++List.replicate (n-i) z).set i v=List.replicate (i+1) v++List.replicate (n-(i+1)) z:=by
 have e:List.replicate (n-i) z=z::List.replicate (n-(i+1)) z:=by
  rw[show n-i=(n-(i+1))+1 by omega];rfl
 rw[List.set_append_right _ _ (by simp),List.length_replicate,Nat.sub_self,e];simp[List.replicate_succ']
theorem vBd {k n}(hk:n<k)(hn:n≤6) v:BW k n v=some (List.replicate n v):=by
 unfold BW;rw[yVz k hn];obtain ⟨s, h1, h2⟩ := yZ (L := fun c i (s : AC) => Lf k c v n i s) (N := n) (fun s => s) (fun i s => s = List.replicate i v ++ List.replicate (n - i) 0) (fun c s hs=>by
   show FF k _ v n n s=_;unfold FF;simp) (fun c i s hi hs=>by
   refine⟨_,?_,rfl⟩;show FF k _ v n i s=_;have hl:s.length=n:=by grind
   unfold FF;simp[zY,qB hi (by grind),aa hi,hl];rw[hs,yF9 v 0 n i hi]) (s:=List.replicate n 0) hk (by simp)
 grind
theorem vXa {k n}(hk:n<k)(hn:n≤6) v:FG k n v=some (List.replicate n (List.replicate n v)):=by
 unfold FG;rw[yVz k hn];obtain ⟨s, h1, h2⟩ := yZ (L := fun c i (s : EQ) => Lg k c n v n i s) (N := n) (fun s => s) (fun i s => s = List.replicate i (List.replicate n v) ++ List.replicate (n - i) []) (fun c s hs=>by
   show FH k _ n v n n s=_;unfold FH;simp) (fun c i s hi hs=>by
   refine⟨_,?_,rfl⟩;show FH k _ n v n i s=_;have hl:s.length=n:=by grind
   unfold FH;simp[zY,qB hi (by grind),aa hi,hl,vBd hk hn];rw[hs,yF9 (List.replicate n v) [] n i hi]) (s:=List.replicate n []) hk (by simp)
 grind
def uH (a:List qY)(b:EQ)(m:AC)(p:EQ)(l:List zH):AC:=((List.range a.length).filter fun i=>hY a b m p l i).map fun(i:Nat)=>(i:Int)
structure Qb (n:Nat) (l:List zH) (r2 r3:AC) (m4:EQ):Prop where
 l2:r2.length=n
 l3:r3.length=n
 l4:m4.length=n
 r4:∀i,i<n→(m4.getD i []).length=n
 more:∀i,i<n→r2.getD i 0=zP (gB i) l
 spent:∀i,i<n→r3.getD i 0=zP (gR i) l
 sent:∀i,i<n→∀j,j<n→cell m4 i j=dS l i j
def Lh (p:zH)(r:AC):AC:=
 let y0:=r.set p.2.1.toNat (zA (r.getD p.2.1.toNat 0-p.2.2.2.1))
 y0.set p.2.2.1.toNat (zA (y0.getD p.2.2.1.toNat 0+p.2.2.2.1))
def Li (p:zH)(r:AC):AC:=bif !decide (p.2.2.2.2.1=3) then r.set p.2.1.toNat (zA (r.getD p.2.1.toNat 0+p.2.2.2.1)) else r
theorem vWt {n p}(h:yN n p){r}(hr:r.length=n){i}(hi:i<n)(hb:∀i,i<n→-4611826755915743232<r.getD i 0∧r.getD i 0<4611826755915743232):(Lh p r).getD i 0=r.getD i 0+gB i p:=by
 obtain⟨f0,f1,t0,t1,ne,a1,a2,c1,c3⟩:=h;obtain⟨f,hf⟩:∃f:Nat,p.2.1=f:=⟨p.2.1.toNat,by omega⟩;obtain⟨t,ht⟩:∃t:Nat,p.2.2.1=t:=⟨p.2.2.1.toNat,by omega⟩;have P0:f≠t:=by omega
 have iE:f<n:=by omega
 have g9:t<n:=by omega
 unfold Lh gB;simp only[hf,ht,ao];have b1:=hb f iE;have b2:=hb t g9;have key:∀x,(r.set f (zA (r.getD f 0-p.2.2.2.1))).getD x 0=if f=x then zA (r.getD f 0-p.2.2.2.1) else r.getD x 0:=by grind
 rw[fH,List.length_set,key t,if_neg P0,key i];by_cases h1:t=i
 ·subst h1;rw[if_pos (by grind),if_pos rfl,if_neg (by omega),zO (by omega) (by omega)];omega
 ·rw[if_neg (by grind),if_neg (c:=((t:Int)=i)) (by omega)];by_cases h2:f=i
  ·subst h2;rw[if_pos rfl,if_pos rfl,zO (by omega) (by omega)];omega
  omega
theorem YG {n p}(h:yN n p){r}(hr:r.length=n){i}(hi:i<n)(hb:∀i,i<n→-4611826755915743232<r.getD i 0∧r.getD i 0<4611826755915743232):(Li p r).getD i 0=r.getD i 0+gR i p:=by
 obtain⟨f0,f1,t0,t1,ne,a1,a2,c1,c3⟩:=h;obtain⟨f,hf⟩:∃f:Nat,p.2.1=f:=⟨p.2.1.toNat,by omega⟩;have iE:f<n:=by omega
 have b1:=hb f iE;unfold Li gR;simp only[hf,ao];by_cases hc:p.2.2.2.2.1=3
 ·simp_all
 ·rw[ab hc];simp only[bO,ai];rw[fH];by_cases h2:f=i
  ·subst h2;rw[if_pos (by grind),if_pos (by grind),zO (by omega) (by omega)]
  omega
theorem YH l p i j:dS (l++[p]) i j=dS l i j+gS i j p-gS j i p:=by
 unfold dS;rw[kO,kO];dsimp only[zP];omega
theorem Qc {α:Type} n i (v d:α)(h:i<n):(List.replicate n v).getD i d=v:=by
 simp_all
theorem vXh {k n l}(hk:100<k)(hn:n≤6)(hl:wH n l):∃r2 r3 m4,Qd k n l=some (r2,r3,m4)∧Qb n l r2 r3 m4:=by
 have nZ:=hl.2;have := yZ (L := fun c i (s : AC × AC × EQ) => Lj k c l l.length i s.1 s.2.1 s.2.2) (N := l.length) (fun s => s) (fun i s => Qb n (l.take i) s.1 s.2.1 s.2.2) (fun c s hs=>by
   show FI k _ l l.length l.length s.1 s.2.1 s.2.2=_;unfold FI;simp) (fun c i s hi hs=>by
   have bZ:yN n (l.getD i pd):=hl.1 _ (jY hi);refine⟨(Lh (l.getD i pd) s.1,Li (l.getD i pd) s.2.1,xM (l.getD i pd) s.2.2),?_,?_⟩
   ·show FI k _ l l.length i s.1 s.2.1 s.2.2=_;unfold FI Lh Li xM;simp only[zY,qB hi (by grind),qS,ao,aa hi,ai];obtain⟨f0,f1,t0,t1,ne,a1,a2,c1,c3⟩:=bZ;obtain⟨f,hf⟩:∃f:Nat,(l.getD i pd).2.1=f:=⟨(l.getD i pd).2.1.toNat,by omega⟩;obtain⟨t,ht⟩:∃t:Nat,(l.getD i pd).2.2.1=t:=⟨(l.getD i pd).2.2.1.toNat,by omega⟩;have iE:f<n:=by omega
    have g9:t<n:=by omega
    have r1:=PZ (x:=zA ((s.2.2.getD f []).getD t 0+(l.getD i pd).2.2.2.1)) (t:=t) hs.l4 hs.r4 iE;simp only[hf,ht,ao,zY,hs.l2,hs.l3,hs.l4,List.length_set,hs.r4 f iE,r1 t g9,aa iE,aa g9,ai];grind
   ·have aT:=hl.take i;have hp := vCm bZ hs.l4 hs.r4 (fun i' bJ j' mO=>by
     rw[hs.sent i' bJ j' mO];have:=FB aT i' j';omega)
    have hbM:∀i',i'<n→-4611826755915743232<s.1.getD i' 0∧s.1.getD i' 0<4611826755915743232:=fun i' bJ=>by
     rw[hs.more i' bJ];have:=Yw aT i';omega
    have hbS:∀i',i'<n→-4611826755915743232<s.2.1.getD i' 0∧s.2.1.getD i' 0<4611826755915743232:=fun i' bJ=>by
     rw[hs.spent i' bJ];have:=BU aT i';omega
    refine⟨by unfold Lh;simp[hs.l2],by unfold Li;cases decide ((l.getD i pd).2.2.2.2.1=3)<;>simp[hs.l3],hp.1,hp.2.1,fun i' bJ=>?_,fun i' bJ=>?_,fun i' bJ j' mO=>?_⟩
    ·rw[vWt bZ hs.l2 bJ hbM,hs.more i' bJ,←fG l i pd hi,kO];dsimp only[zP];omega
    ·rw[YG bZ hs.l3 bJ hbS,hs.spent i' bJ,←fG l i pd hi,kO];dsimp only[zP];omega
    ·rw[hp.2.2 i' bJ j' mO,hs.sent i' bJ j' mO,←fG l i pd hi,YH]) (n:=k) (s:=(List.replicate n 0,List.replicate n 0,List.replicate n (List.replicate n 0))) (by omega) ⟨by simp,by simp,by simp,by grind,fun i hi=>by rw[Qc n i _ _ hi];rfl,fun i hi=>by rw[Qc n i _ _ hi];rfl,fun i hi j hj=>by
    unfold cell;rw[Qc n i _ _ hi,Qc n j _ _ hj];rfl⟩
 obtain⟨s,h1,h2⟩:=this;rw[List.take_of_length_le (Nat.le_refl _)] at h2;refine⟨s.1,s.2.1,s.2.2,?_,h2⟩;unfold Qd;rw[vBd (by omega) hn,vXa (by omega) hn];simp_all
theorem vNi {k}{l:List zH}(hk:l.length<k)(hl:l.length<9223372036854775808) i:Qe k l i=some (!zZ (fun x=> !decide ((l.getD x pd).2.1=i)) l.length 0):=by
 obtain ⟨x, h1, h2⟩ := qg (L := fun c x => Lk k c l l.length x i) (N := l.length) (fun x => decide ((l.getD x pd).2.1 = i)) (fun c=>by
   show FJ k _ l l.length l.length i=_;unfold FJ;simp) (fun c x hx=>by
   show FJ k _ l l.length x i=_;unfold FJ YI;simp[zY,qB hx hl,aa hx]) hk
 unfold Qe YJ;grind
theorem vDu {n:Nat}{l:List zH}(hl:∀p∈l,yN n p)(i:Nat):zZ (fun x=> !decide ((l.getD x pd).2.1=i)) l.length 0=decide (zP (gN i) l+zP (gR i) l=0):=by
 have hN:=xD (g:=gN i) (l:=l) fun p hp=>(P2 (hl p hp) i).1
 have hR:=xD (g:=gR i) (l:=l) fun p hp=>(PX (hl p hp) i).1
 have e:zP (gN i) l+zP (gR i) l=zP (fun p:zH=>if p.2.1=(i:Int) then p.2.2.2.1 else 0) l:=by
  rw[←yRd];refine Pt fun p hp=>?_
  unfold gN gR;omega
 rw[e];have h:∀(l:List zH),(∀p∈l,yN n p)→((∀p∈l,¬p.2.1=i)↔zP (fun p:zH=>if p.2.1=(i:Int) then p.2.2.2.1 else 0) l=0):=by
  intro l
  induction l with
  |nil=>intro _;simp[zP]
  |cons q l ih=>
   intro hm;have ih:=ih (by grind);have hq:=hm q (by simp);have h0:0≤zP (fun p:zH=>if p.2.1=i then p.2.2.2.1 else 0) l:=xD fun p hp=>by
    have:=(hm p (by grind)).a1;omega
   unfold zP;by_cases c:q.2.1=i
   ·rw[if_pos c];have:=hq.a1;grind
   simp_all
 have bn:(∀p∈l,¬p.2.1=i)↔zZ (fun x=> !decide ((l.getD x pd).2.1=i)) l.length 0=true:=by
  rw[wI];constructor
  ·intro h j hj
   simpa using h _ (jY hj)
  ·intro h p hp;obtain⟨j,hj,rfl⟩:=List.getElem_of_mem hp;have:=h j hj
   simpa[List.getD,hj] using this
 simp_all
def FK (n Ll:Int):Bool:= !decide (Ll= -1)&&decide (n>Ll)
theorem vAd k n Ll:FL k n Ll=some (FK n Ll):=by
 unfold FL FK;grind
theorem vU8 k b c r s (h:-9223372036854775808≤r-s)(h':r<9223372036854775808)(hs:0≤s):xN k b c r s=some (jE r s):=by
 unfold xN jE yC;rw[zO h (by omega),ak];grind
def BX (b p:EQ)(l:List zH)(i:Nat)(short:Bool)(q:zH):Bool:=
 decide (q.2.1=i)&&((decide (q.2.2.2.2.1=3)&&short)||FK (cell p i q.2.2.1.toNat+dS l i q.2.2.1.toNat) (cell b i q.2.2.1.toNat))
theorem vOs {k a b m p l}(hk:100<k)(hb:wS a b m p)(hl:wH a.length l){r2 r3 m4}(hm:Qb a.length l r2 r3 m4){i}(hi:i<a.length) bal cr res n0 (kJ:0≤res∧res≤2305843009213693952):
  Qf k l i bal cr res r2 r3 m4 n0 a b m p=some (!zZ (fun x=> !BX b p l i (decide (n0<jE res (zP (gR i) l))) (l.getD x pd)) l.length 0):=by
 have nZ:=hl.2;have hR:=BU hl i;obtain ⟨x, h1, h2⟩ := qg (L := fun c x => Lm k c l l.length x i bal cr res r2 r3 m4 n0 a b m p) (N := l.length) (fun x => BX b p l i (decide (n0 < jE res (zP (gR i) l))) (l.getD x pd)) (fun c=>by
   show FM k _ l l.length l.length i bal cr res r2 r3 m4 n0 a b m p=_;unfold FM;simp) (fun c x hx=>by
   show FM k _ l l.length x i bal cr res r2 r3 m4 n0 a b m p=_;have bZ:yN a.length (l.getD x pd):=hl.1 _ (by grind);unfold FM;simp only[zY,qB hx (by grind),qS,ao,aa hx];generalize l.getD x (0,(0,(0,(0,(0,(0,0))))))=q at bZ⊢;obtain⟨id,f,t,am,cl,st,ti⟩:=q;obtain⟨f0,f1,t0,t1,ne,a1,a2,c1,c3⟩:=bZ;dsimp only at f0 f1 t0 t1 ne a1 a2 c1 c3⊢;obtain⟨t,rfl⟩:∃y:Nat,t=y:=⟨t.toNat,by omega⟩;have g9:t<a.length:=by omega
   unfold YK BX;cases hf:decide (f=(i:Int)) with
   |false=>simp
   |true=>
    have e1:(r3.getD i 0)=zP (gR i) l:=hm.spent i hi;have e2:(m4.getD i []).getD t 0=dS l i t:=hm.sent i hi t g9;have ql:=hb.nums.net i hi t g9;have hd:=FB hl i t;have e3:zA ((p.getD i []).getD t 0+dS l i t)=cell p i t+dS l i t:=zO (by show _≤cell p i t+dS l i t;omega) (by show cell p i t+dS l i t<_;omega);simp only[zY,hm.l3,hm.l4,hm.r4 i hi,hb.pl,hb.pr i hi,hb.bl,hb.br i hi,aa hi,aa g9,ao,e1,e2,e3,vU8 k bal cr res (zP (gR i) l) (by omega) (by omega) hR.1,ae,vAd];cases decide (cl=3)<;>cases decide (n0<jE res (zP (gR i) l))<;>rfl) (n:=k) (by omega)
 unfold Qf YL;grind
theorem YM {α g}:∀{l:List α},(∀p∈l,0≤g p)→(0<zP g l↔∃p∈l,0<g p)
 |[],_=>by simp[zP]
 |q::l,h=>by
  have ih:=YM (g:=g) (l:=l) (by grind);have h0:=xD (g:=g) (l:=l) (by grind);unfold zP;grind
theorem Qg {N p}:zZ p N 0=false↔∃j,j<N∧p j=false:=by
 constructor
 ·apply Classical.byContradiction;intro hn;have:zZ p N 0=true:=wI.2 (by grind);simp_all
 ·rintro⟨j,hj,hp⟩
  cases h:zZ p N 0 with
  |false=>rfl
  |true=>rw[wI.1 h j hj] at hp;cases hp
theorem YN {a:List qY}{b p l}(hl:wH a.length l){i}(hi:i<a.length) short:
  (!zZ (fun x=> !BX b p l i short (l.getD x pd)) l.length 0)=(!zZ (uE b p l i) a.length 0||(decide (zP (gN i) l>0)&&short)):=by
 have hN:=YM (g:=gN i) (l:=l) fun p hp=>(P2 (hl.1 p hp) i).1
 have hS:=fun j=>YM (g:=gS i j) (l:=l) fun p hp=>(Yv (hl.1 p hp) i j).1
 rw[Bool.eq_iff_iff];simp only[Bool.not_eq_true',Bool.or_eq_true,aR,aZ];rw[Qg,Qg];constructor
 ·rintro⟨x,hx,hb⟩
  have bZ:=hl.1 _ (jY (d:=pd) hx);have dp:=jY (d:=pd) hx;generalize l.getD x pd=q at hb bZ dp;simp only[BX,Bool.not_eq_false',aR,Bool.or_eq_true,aZ] at hb;obtain⟨hf,hb⟩:=hb;rcases hb with⟨hc,hs⟩|ho
  ·refine .inr ⟨hN.2 ⟨q,dp,?_⟩,hs⟩;unfold gN;rw[if_pos ⟨hf,hc⟩];have:=bZ.a1;omega
  ·have h1:=bZ.t0;have h2:=bZ.t1;refine .inl ⟨q.2.2.1.toNat,by omega,?_⟩;unfold uE;have lX:zP (gS i q.2.2.1.toNat) l>0:=(hS _).2 ⟨q,dp,by
    unfold gS;rw[if_pos (by grind)];have:=bZ.a1;omega⟩
   rw[aa lX];unfold FK at ho;simp_all
 ·rintro(⟨j,hj,hb⟩|⟨hp,hs⟩)
  ·simp only[uE,Bool.not_eq_false',aR,aZ] at hb;obtain⟨lX,ho⟩:=hb;obtain⟨q,hq,hg⟩:=(hS j).1 lX;obtain⟨x,hx,rfl⟩:=List.getElem_of_mem hq;refine⟨x,hx,?_⟩;have e:l.getD x pd=l[x]:=by simp[List.getD,hx]
   rw[e];unfold gS at hg;by_cases c:l[x].2.1=(i:Int)∧l[x].2.2.1=(j:Int)
   ·unfold BX FK;simp_all
   ·rw[if_neg c] at hg;omega
  ·obtain⟨q,hq,hg⟩:=hN.1 hp;obtain⟨x,hx,rfl⟩:=List.getElem_of_mem hq;refine⟨x,hx,?_⟩;have e:l.getD x pd=l[x]:=by simp[List.getD,hx]
   rw[e];unfold gN at hg;by_cases c:l[x].2.1=(i:Int)∧l[x].2.2.2.2.1=3
   ·unfold BX;simp_all
   ·rw[if_neg c] at hg;omega
theorem YO {k a b m p l}(hk:100<k)(hb:wS a b m p)(hl:wH a.length l){r2 r3 m4}(hm:Qb a.length l r2 r3 m4){i}(hi:i<a.length)(hs:decide (zP (gN i) l+zP (gR i) l=0)=false):
  Qh k r2 r3 m4 a b m p i l=some (hY a b m p l i):=by
 have h6:=hb.n6;have nZ:=hl.2;have hB:=Yw hl i;have hx:=hb.acct i hi;simp only[fJ,aR,aZ] at hx;have qn:-4611686018427387904<(a.getD i ad).1∧(a.getD i ad).1<4611686018427387904∧0≤(a.getD i ad).2.1∧(a.getD i ad).2.1≤2305843009213693952∧0≤(a.getD i ad).2.2∧(a.getD i ad).2.2≤2305843009213693952:=by grind
 have ql:=xE (P7 hb hi) a.length;have e1:r2.getD i 0=zP (gB i) l:=hm.more i hi;unfold Qh;simp only[zY,aa hi,ai,ao,hm.l2,hm.l4,e1,hm.r4 i hi];rw[vUe (by omega) (by omega) hi hb.pl (hb.pr i hi) (P7 hb hi)];rw[zO (x:=(a.getD i ad).1+(a.getD i ad).2.1) (by omega) (by omega),zO (x:=(a.getD i ad).1+(a.getD i ad).2.1+zP (gB i) l) (by omega) (by omega)];unfold hY;rw[hs];cases hn:decide ((a.getD i ad).1+(a.getD i ad).2.1+zP (gB i) l<0) with
 |true=>simp
 |false=>
  obtain ⟨s, q1, q2⟩ := yZ (L := fun c j (s : Int) => BY k c l s (m4.getD i []) a.length j r2 r3 m4 a b m p i (a.getD i ad).1 (a.getD i ad).2.1 (a.getD i ad).2.2 ((a.getD i ad).1 + (a.getD i ad).2.1 + zP (gB i) l)) (N := a.length) (fun s => (l, s, r2, r3, m4, a, b, m, p, (i : Int), (a.getD i ad).1, (a.getD i ad).2.1, (a.getD i ad).2.2, (a.getD i ad).1 + (a.getD i ad).2.1 + zP (gB i) l)) (fun j s => s = qG (cell p i) a.length + qG (dS l i) j) (fun c s hs=>by
    show FN k _ l s (m4.getD i []) a.length a.length r2 r3 m4 a b m p i (a.getD i ad).1 (a.getD i ad).2.1 (a.getD i ad).2.2 ((a.getD i ad).1+(a.getD i ad).2.1+zP (gB i) l)=_;unfold FN;simp) (fun c j s hj hs=>by
    refine⟨qG (cell p i) a.length+qG (dS l i) (j+1),?_,rfl⟩;show FN k _ l s (m4.getD i []) a.length j r2 r3 m4 a b m p i (a.getD i ad).1 (a.getD i ad).2.1 (a.getD i ad).2.2 ((a.getD i ad).1+(a.getD i ad).2.1+zP (gB i) l)=_;have e2:(m4.getD i []).getD j 0=dS l i j:=hm.sent i hi j hj;have Ej:=xE (fun j=>FB hl i j) j;have EG:=FB hl i j;unfold FN;simp only[zY,qB hj (by grind),qS,ao,hm.r4 i hi,aa hj,ai,e2];rw[hs,zO (x:=qG (cell p i) a.length+qG (dS l i) j+dS l i j) (by omega) (by omega),Int.add_assoc];rfl) (n:=k) (s:=qG (cell p i) a.length) (by omega) (by show _=_+0;omega)
  have q1':BY k k l (qG (cell p i) a.length) (m4.getD i []) a.length 0 r2 r3 m4 a b m p i (a.getD i ad).1 (a.getD i ad).2.1 (a.getD i ad).2.2 ((a.getD i ad).1+(a.getD i ad).2.1+zP (gB i) l)=_:=q1;simp only[ak,ae];rw[show BY k k l (qG (cell p i) a.length) (m4.getD i []) a.length 0 r2 r3 m4 a b m p i (a.getD i (0,(0,0))).1 (a.getD i (0,(0,0))).2.1 (a.getD i (0,(0,0))).2.2 ((a.getD i ad).1+(a.getD i ad).2.1+zP (gB i) l)=_ from q1'];simp only[ae,zY,hb.ml,aa hi,ai,ao,vAd];rw[vOs hk hb hl hm hi _ _ _ _ (by grind),YN hl hi,q2,vG0 hl.1 i hi];have en:qG (cell p i) a.length+-zP (gB i) l=qG (cell p i) a.length-zP (gB i) l:=by omega
  rw[en];unfold FK;grind
theorem yNb f i:((List.range (i+1)).filter f).map (fun(x:Nat)=>(x:Int))=(((List.range i).filter f).map fun(x:Nat)=>(x:Int))++(bif f i then[(i:Int)] else[]):=by
 rw[List.range_succ,List.filter_append,List.map_append];grind
theorem YP {k a b m p l}(hk:100<k)(hb:wS a b m p)(hl:wH a.length l):BZ k a b m p l=some (uH a b m p l):=by
 have h6:=hb.n6;have nZ:=hl.2;obtain⟨r2,r3,m4,g1,hm⟩:=vXh hk h6 hl;obtain ⟨r, h1, h2⟩ := yZ (L := fun c i (r : AC) => FO k c l a.length i a b m p r2 r3 m4 r) (N := a.length) (fun r => r) (fun i r => r = ((List.range i).filter fun i => hY a b m p l i).map fun (x : Nat) => (x : Int)) (fun c r hr=>by
   show FP k _ l a.length a.length a b m p r2 r3 m4 r=_;unfold FP;simp) (fun c i r hi hr=>by
   have hle:r.length≤i:=by
    grind
   have aY:zM (r.length+1) 8=true:=qE (by omega) (by omega);refine⟨_,?_,rfl⟩;show FP k _ l a.length i a b m p r2 r3 m4 r=_;unfold FP;simp only[qB hi (by grind),vNi (show l.length<k by omega) (by omega)];rw[vDu hl.1,yNb,←hr];cases hz:decide (zP (gN i) l+zP (gR i) l=0) with
   |true=>
    have:hY a b m p l i=false:=by unfold hY;simp_all
    simp_all
   |false=>
    rw[YO hk hb hl hm hi hz];grind) (n:=k) (s:=[]) (by omega) rfl
 unfold BZ;rw[g1];simp;have fg:FO k k l a.length 0 a b m p r2 r3 m4 []=some r:=h1;rw[fg,h2];rfl
theorem yNr {k a b m p l}(hk:100<k)(hb:wS a b m p)(hl:wH a.length l):uF k a b m p l=some (uH a b m p l):=by
 have h6:=hb.n6;obtain ⟨r, h1, h2⟩ := yZ (L := fun c i (r : AC) => uG k c l i a b m p r) (N := a.length) (fun r => r) (fun i r => r = ((List.range i).filter fun i => hY a b m p l i).map fun (x : Nat) => (x : Int)) (fun c r hr=>by
   show sQ k _ l a.length a b m p r=_;unfold sQ;simp) (fun c i r hi hr=>by
   have hle:r.length≤i:=by
    grind
   have aY:zM (r.length+1) 8=true:=qE (by omega) (by omega);refine⟨_,?_,rfl⟩;show sQ k _ l i a b m p r=_;unfold sQ;simp[qB hi (by grind),yWe hk hb hl hi];rw[yNb,←hr];grind) (s:=[]) (show a.length<k by omega) rfl
 unfold uF;have fg:uG k k l 0 a b m p []=some r:=h1;rw[fg,h2];rfl
theorem YQ {a b m p l}:decide (((uH a b m p l).length:Int)=0)=zZ (fun i=> !hY a b m p l i) a.length 0:=by
 unfold uH;cases h:zZ (fun i=> !hY a b m p l i) a.length 0 with
 |true=>
  rw[wI] at h;simp_all
 |false=>
  apply ab;intro h0;obtain⟨j,hj,hs⟩:=Qg.1 h;simp_all
theorem vP9 {k}{l:List zH}(hk:l.length<k)(hl:l.length<9223372036854775808)(a:List qY) b m p:Qi k l a b m p=some (!nY a.length l):=by
 obtain ⟨x, h1, h2⟩ := qg (L := fun c i => Ln k c l l.length i a b m p) (N := l.length) (fun i => !pq a.length (l.getD i pd)) (fun c=>by
  show FQ k _ l l.length l.length a b m p=_;unfold FQ;simp) (fun c i hi=>by
  show FQ k _ l l.length i a b m p=_;unfold FQ YR;simp[zY,qB hi hl,aa hi,PU]) hk
 unfold Qi YS;unfold nY;grind
theorem vPn {k a b m p}{l:List zH}(hk:100<k)(hb:wS a b m p)(hl:l.length≤80):B1 k a b m p l=some (xQ a b m p l):=by
 unfold B1 xQ;have e:decide ((l.length:Int)≤64)=decide (l.length≤64):=by
  grind
 rw[e,vP9 (by omega) (by omega)];cases bQ:decide (l.length≤64) with
 |false=>simp
 |true=>
  cases hm:nY a.length l with
  |false=>rfl
  |true=>
   have hr:wH a.length l:=⟨BS.1 hm,by grind⟩;simp only[ai,ae,az,bO,YP hk hb hr,YQ,Bool.true_and]
def qK (l:List zH):Prop:=List.Pairwise (fun p q=>p.1≠q.1) l
theorem qK.filter {l}(h:qK l) f:qK (l.filter f):=List.Pairwise.filter f h
theorem B2 {α:Type} f (l:List α) i d (h:i<l.length):(l.take (i+1)).filter f=(l.take i).filter f++(bif f (l.getD i d) then[l.getD i d] else[]):=by
 rw[←fG l i d h,List.filter_append];rfl
theorem Lp {α X:Type}(d:α){l:List α}{L:Nat→Int→List α→Option X}(f:α→Bool)(e:List α→X)(bM:∀n s,L (n+1) (l.length:Int) s=some (e s))
  (aI:∀n i s,i<l.length→s.length≤i→L (n+1) (i:Int) s=L n ((i+1:Nat):Int) (bif f (l.getD i d) then s++[l.getD i d] else s)) {n:Nat} (hn:l.length<n):
  L n 0 []=some (e (l.filter f)):=by
 obtain ⟨s', h1, h2⟩ := yZ (L := L) (N := l.length) e (fun i s => s = (l.take i).filter f) (fun n s _ => bM n s) (fun n i s hi hs=>by
  refine⟨_,aI n i s hi ?_,?_⟩
  ·subst hs;have:=List.length_filter_le f (l.take i);rw[bP] at this;omega
  ·subst hs;rw[B2 f l i d hi];cases f (l.getD i d)<;>simp) (s:=[]) hn (by simp)
 rw[h1,h2,List.take_length]
def qT (l:List zH):Prop:=l.length≤1000
theorem n9 {n}(h:n≤1000):zM (n+1) 56=true:=qE (by omega) (by omega)
def kg (t:Int)(p:zH):Bool:=bif decide (t≥p.2.2.2.2.2.1) then decide (t≤p.2.2.2.2.2.2) else false
theorem YT {k l}(hk:l.length<k)(hl:qT l) t:FR k l t=some (l.filter (kg t)):=by
 unfold FR YU;have := Lp pd (L := fun n i s => Lq k n l l.length i t s) (kg t) id (fun n s=>by
  show FT k _ l l.length l.length t s=_;unfold FT;simp) (fun n i s hi hs=>by
  show FT k _ l l.length i t s=_;unfold FT YV YW;unfold qT at hl;simp[zY,qB hi (by grind),n9 (show s.length≤1000 by omega)];unfold kg;grind) hk
 simp_all
theorem YX {k l}(hk:l.length<k)(hl:qT l) t:FU k l t=some (l.filter (kg t)):=by
 unfold FU;have := Lp pd (L := fun n i s => Lr k n l t i s) (kg t) id (fun n s=>by
  show FV k _ l t l.length s=_;unfold FV;simp) (fun n i s hi hs=>by
  show FV k _ l t i s=_;unfold FV YY;unfold qT at hl;simp[zY,qB hi (by grind),n9 (show s.length≤1000 by omega)];unfold kg;grind) hk
 simp_all
def wX (f:Int)(p:zH):Bool:=decide (p.2.1=f)
theorem Qj {k l}(hk:l.length<k)(hl:qT l) f:uI k l f=some (l.filter (wX f)):=by
 unfold uI;have := Lp pd (L := fun n i s => Ls k n l f i s) (wX f) id (fun n s=>by
  show FW k _ l f l.length s=_;unfold FW;simp) (fun n i s hi hs=>by
  show FW k _ l f i s=_;unfold FW;unfold qT at hl;simp[zY,qB hi (by grind),n9 (show s.length≤1000 by omega)];unfold wX;grind) hk
 simp_all
def Qk (r:List zH)(p:zH):Bool:=zZ (fun x=>decide (((r.filter (wX p.2.1)).getD x pd).2.2.2.2.1=3)) (r.filter (wX p.2.1)).length 0
def Ql (r:List zH)(p:zH):Bool:=decide ((r.filter (wX p.2.1)).getD 0 pd=p)
def sR (r:List zH)(p:zH):Bool:=Ql r p||Qk r p
def wE (l:List zH)(t:Int):List zH:=(l.filter (kg t)).filter (sR (l.filter (kg t)))
theorem eq7 (p q:zH):((decide (p.1=q.1))&&((decide (p.2.1=q.2.1))&&((decide (p.2.2.1=q.2.2.1))&&((decide (p.2.2.2.1=q.2.2.2.1))&&((decide (p.2.2.2.2.1=q.2.2.2.2.1))&&((decide (p.2.2.2.2.2.1=q.2.2.2.2.2.1))&&(decide (p.2.2.2.2.2.2=q.2.2.2.2.2.2))))))))=decide (p=q):=by
 grind
theorem YZ {k n:Nat}(s7:Int)(r0 r1 r2:List zH)(hk:r2.length<n)(hl:qT r2):
  FX k n s7 true 0 r0 r1 r2=some (s7,zZ (fun x=>decide ((r2.getD x pd).2.2.2.2.1=3)) r2.length 0,r0,r1,r2):=by
 obtain ⟨s', h1, h2⟩ := yZ (L := fun n i s => FX k n s7 s i r0 r1 r2) (N := r2.length) (fun s => (s7, s, r0, r1, r2)) (fun i s => s = zZ (fun x => decide ((r2.getD x pd).2.2.2.2.1 = 3)) i 0) (fun n s _=>by
  show FY k _ s7 s r2.length r0 r1 r2=_;unfold FY;simp only [qS, ab (Nat.lt_irrefl _), ak]) (fun n i s hi hs=>by
  refine⟨_,?_,rfl⟩;show FY k _ s7 s i r0 r1 r2=_;unfold FY;unfold qT at hl;simp only[zY,qB hi (show r2.length<9223372036854775808 by omega),qS,ao,aa hi,ai];have e:zZ (fun x=>decide ((r2.getD x pd).2.2.2.2.1=3)) (i+1) 0=(s&&decide ((r2.getD i pd).2.2.2.2.1=3)):=by
   rw[Bool.eq_iff_iff,hs];simp only[wI,aR,aZ];constructor
   ·intro h;exact⟨fun j hj=>h j (by omega),h i (by omega)⟩
   ·rintro⟨h1,h2⟩ j hj
    by_cases c:j=i
    ·subst c;exact h2
    ·exact h1 j (by omega)
  rw[e];cases s<;>rfl) (s:=true) hk rfl
 exact h1.trans (by rw[h2])
theorem yRp {k l}(hk:l.length<k)(hl:qT l) t:Lt k l t=some (wE l t):=by
 unfold Lt;rw[YX hk hl];unfold wE;have dO:(l.filter (kg t)).length≤l.length:=by grind
 generalize l.filter (kg t)=r at dO;unfold qT at hl;have := Lp pd (L := fun n i s => Lu k n i r s) (l := r) (sR r) id (fun n s=>by
  show FZ k _ r.length r s=_;unfold FZ;simp) (fun n i s hi hs=>by
  show FZ k _ i r s=_;unfold FZ;have xd:(r.filter (wX (r.getD i pd).2.1)).length≤r.length:=by grind
  have tT:0<(r.filter (wX (r.getD i pd).2.1)).length:=by
   apply List.length_pos_of_mem (a:=r.getD i pd);rw[List.mem_filter];exact⟨jY hi,by simp[wX]⟩
  have Y0:=Qj (k:=k) (l:=r) (by omega) (show r.length≤1000 by omega) (r.getD i pd).2.1;have b0:∀n:Nat,zB 0 n=decide (0<n):=fun n=>zY 0 n
  have e7:=eq7 ((r.filter (wX (r.getD i pd).2.1)).getD 0 pd) (r.getD i pd);simp only[ao];rw[Y0];simp only[ae];rw[YZ ((i:Nat):Int) r s _ (by omega) (show _≤1000 by omega)];simp[b0,zY,qB hi (by grind),n9 (show s.length≤1000 by omega)];unfold sR Ql Qk;grind) (show r.length<k by omega)
 simp_all
def B3 (f:Int)(q:zH):Bool:=decide (q.2.1=f)&& !decide (q.2.2.2.2.1=3)
theorem vNx {k}{l:List zH}(hk:l.length<k)(hl:l.length<9223372036854775808) i f t a c s e:
  Qm k l i f t a c s e=some (!zZ (fun x=> !B3 f (l.getD x pd)) l.length 0):=by
 obtain ⟨x, h1, h2⟩ := qg (L := fun n i' => Lv k n l l.length i' i f t a c s e) (N := l.length) (fun x => B3 f (l.getD x pd)) (fun n=>by
  show F0 k _ l l.length l.length i f t a c s e=_;unfold F0;simp) (fun n j hj=>by
  show F0 k _ l l.length j i f t a c s e=_;unfold F0 Y1;simp[zY,qB hj hl];unfold B3;grind) hk
 unfold Qm Y2;grind
theorem Y3 (r:List zH)(p:zH):Qk r p=true↔∀q∈r,q.2.1=p.2.1→q.2.2.2.2.1=3:=by
 unfold Qk;rw[wI];constructor
 ·intro h q hq he;have hm:q∈r.filter (wX p.2.1):=List.mem_filter.2 ⟨hq,by simp[wX,he]⟩;obtain⟨i,hi,e⟩:=List.getElem_of_mem hm;have:=h i hi;rw[bY,List.getElem?_eq_getElem hi,e] at this
  simpa using this
 ·intro h j hj;have hm:=jY (d:=pd) hj;rw[List.mem_filter] at hm;have:=h _ hm.1 (by simpa[wX] using hm.2)
  simpa using this
theorem vM5 (r:List zH)(f:Int):zZ (fun x=> !B3 f (r.getD x pd)) r.length 0=true↔∀q∈r,q.2.1=f→q.2.2.2.2.1=3:=by
 rw[wI];constructor
 ·intro h q hq he;obtain⟨i,hi,e⟩:=List.getElem_of_mem hq;have:=h i hi;rw[bY,List.getElem?_eq_getElem hi,e] at this
  simpa[B3,he] using this
 ·intro h j hj;have:=h _ (jY (d:=pd) hj);simp only[B3,Bool.not_eq_true',Bool.and_eq_false_iff,Bool.not_eq_false',aZ,decide_eq_false_iff_not];by_cases c:(r.getD j pd).2.1=f
  ·exact .inr (this c)
  ·exact .inl c
theorem qK.split {r}(h:qK r){i}(hi:i<r.length):∀q∈r.take i,q.1≠(r.getD i pd).1:=by
 intro q hq;have e:r.take (i+1)=r.take i++[r.getD i pd]:=(fG r i pd hi).symm;have hs:qK (r.take (i+1)):=List.Pairwise.sublist (by grind) h;rw[e] at hs;exact(List.pairwise_append.1 hs).2.2 q hq _ (by simp)
theorem Qn {α:Type} r i (d:α)(hi:i<r.length):r=r.take i++r.getD i d::r.drop (i+1):=by
 simp_all
theorem vTt {r}(h:qK r){i}(hi:i<r.length):Ql r (r.getD i pd)= !(r.take i).any (wX (r.getD i pd).2.1):=by
 unfold Ql;have e:∀f,wX f (r.getD i pd)=true→r.filter (wX f)=(r.take i).filter (wX f)++r.getD i pd::(r.drop (i+1)).filter (wX f):=by
  intro f hf;have:=congrArg (List.filter (wX f)) (Qn r i pd hi);grind
 have e:=e (r.getD i pd).2.1 (by simp[wX]);rw[e];cases ha:(r.take i).any (wX (r.getD i pd).2.1) with
 |false=>
  have:(r.take i).filter (wX (r.getD i pd).2.1)=[]:=by
   simp_all
  grind
 |true=>
  cases hf:(r.take i).filter (wX (r.getD i pd).2.1) with
  |nil=>
   rw[List.filter_eq_nil_iff] at hf;grind
  |cons q l=>
   have hq:q∈r.take i:=(List.mem_filter.1 (hf▸List.mem_cons_self ..:q∈(r.take i).filter _)).1;have:=h.split hi q hq;grind
theorem vLl {r}(h:qK r){i}(hi:i<r.length):
  sR r (r.getD i pd)=(!(r.take i).any (wX (r.getD i pd).2.1)||(decide ((r.getD i pd).2.2.2.2.1=3)&&zZ (fun x=> !B3 (r.getD i pd).2.1 (r.getD x pd)) r.length 0)):=by
 unfold sR;rw[vTt h hi]
 congr 1
 rw[Bool.eq_iff_iff,Y3,aR,vM5,aZ];grind
theorem lookup_cons (f g:Int)(l:List (Int×Bool)):(List.lookup f ((g,true)::l)).getD false=(decide (f=g)||(List.lookup f l).getD false):=by
 rw[List.lookup_cons];by_cases c:f=g
 ·subst c;simp
 ·have:(f==g)=false:=by simpa using c
  rw[this];simp[c]
theorem yX3 {k:Nat}{l:List zH}(hk:l.length<k)(hl:qT l)(hd:qK l)(t:Int):Lw k l t=some (wE l t):=by
 unfold Lw;rw[YT hk hl];simp only[ae];unfold wE;have dO:(l.filter (kg t)).length≤l.length:=List.length_filter_le _ _;have xf:=hd.filter (kg t);generalize l.filter (kg t)=r at dO xf;unfold qT at hl;unfold Y4;obtain ⟨s', h1, h2, h3⟩ := yZ (L := fun n i (s : List (Int × Bool) × List zH) => F1 k n r r.length i s.1 r s.2) (N := r.length) (fun s => (s.1, r, s.2)) (fun i s => (∀ f, (List.lookup f s.1).getD false = (r.take i).any (wX f)) ∧ s.2 = (r.take i).filter (sR r)) (fun n s _=>by
  show F2 k _ r r.length r.length s.1 r s.2=_;unfold F2;simp only [qS, ab (Nat.lt_irrefl _), ak]) (fun n i s hi hs=>by
  refine⟨(((r.getD i pd).2.1,true)::s.1,bif sR r (r.getD i pd) then s.2++[r.getD i pd] else s.2),?_,?_,?_⟩
  ·show F2 k _ r r.length i s.1 r s.2=_;unfold F2 Y5;have hlen:s.2.length≤i:=by
    rw[hs.2];have:=List.length_filter_le (sR r) (r.take i);rw[bP] at this;omega
   have hc:=vNx (k:=k) (l:=r) (by omega) (by omega) (r.getD i pd).1 (r.getD i pd).2.1 (r.getD i pd).2.2.1 (r.getD i pd).2.2.2.1 (r.getD i pd).2.2.2.2.1 (r.getD i pd).2.2.2.2.2.1 (r.getD i pd).2.2.2.2.2.2;have uu:=hs.1 (r.getD i pd).2.1;have hp:=vLl xf hi;simp only[pd] at hc uu hp⊢;simp only[zY,qB hi (show r.length<9223372036854775808 by omega),qS,ao,aa hi,ai,n9 (show s.2.length≤1000 by omega)];rw[hc,uu,hp];generalize (r.take i).any _=x;generalize zZ _ _ 0=y;generalize decide ((r.getD i (0,(0,(0,(0,(0,(0,0))))))).2.2.2.2.1=3)=z;cases x<;>cases y<;>cases z<;>rfl
  ·intro f;rw[lookup_cons,hs.1 f,←fG r i pd hi,List.any_append,Bool.or_comm]
   congr 1
   simp only[List.any_cons,List.any_nil,Bool.or_false,wX];rw[Bool.eq_iff_iff];simp only[aZ];exact eq_comm
  ·show(bif sR r (r.getD i pd) then s.2++[r.getD i pd] else s.2)=_;rw[hs.2,B2 _ _ _ pd hi];cases sR r (r.getD i pd)<;>simp) (s:=([],[])) (show r.length<k by omega) ⟨fun f=>by simp,by simp⟩
 have fg:F1 k k r r.length 0 [] r []=some (s'.1,r,s'.2):=h1;rw[fg,h3,List.take_length];rfl
def xR (p:Nat→Bool):Nat→Nat→Option Nat
 |0,_=>none
 |c+1,i=>bif p i then some i else xR p c (i+1)
def Y6:Option Nat→Unit⊕Int
 |some x=>.inr (x:Int)
 |none=>.inl ()
theorem Y7 {L:Nat→Int→Option (Unit⊕Int)}{N:Nat} bad (bM:∀n,L (n+1) (N:Int)=some (.inl ()))
  (aI:∀n i,i<N→L (n+1) (i:Int)=bif bad i then some (.inr (i:Int)) else L n ((i+1:Nat):Int)):
  ∀c i n,i+c=N→c<n→L n (i:Int)=some (Y6 (xR bad c i))
 |0,i,n,h,hn=>by
  obtain⟨n,rfl⟩:∃m,n=m+1:=⟨n-1,by omega⟩;have:i=N:=by omega
  subst this;exact bM n
 |c+1,i,n,h,hn=>by
  obtain⟨n,rfl⟩:∃m,n=m+1:=⟨n-1,by omega⟩;rw[aI n i (by omega)];unfold xR;cases hb:bad i with
  |true=>rfl
  |false=>
   exact Y7 bad bM aI c (i+1) n (by omega) (by omega)
theorem yUq {p}:∀{c i x},xR p c i=some x→i≤x∧x<i+c∧p x=true∧∀j,i≤j→j<x→p j=false
 |c+1,i,x,h=>by
  unfold xR at h;cases hp:p i with
  |true=>
   grind
  |false=>
   rw[hp] at h;obtain⟨h1,h2,h3,h4⟩:=yUq h;grind
theorem ySm {p}:∀{c i},xR p c i=none→∀j,i≤j→j<i+c→p j=false
 |0,_,_=>by grind
 |c+1,i,h=>by
  unfold xR at h;cases hp:p i with
  |true=>
   simp_all
  |false=>
   rw[hp] at h;intro j j1 j2;by_cases e:j=i
   ·simp_all
   ·exact ySm h j (by omega) (by omega)
def vU (l:List zH)(id:Int):Option Nat:=xR (fun x=>decide ((l.getD x pd).1=id)) l.length 0
def fm (l:List zH)(id:Int):Int:=match vU l id with|some x=>(x:Int)|none=>-1
theorem kQ {l id x}(h:vU l id=some x):x<l.length∧(l.getD x pd).1=id:=by
 obtain⟨_,h2,h3,_⟩:=yUq h;simp_all
theorem vMy {l id}(h:vU l id=none):∀p∈l,p.1≠id:=by
 intro p hp e;obtain⟨i,hi,e'⟩:=List.getElem_of_mem hp;have:=ySm h i (by omega) (by omega);simp_all
theorem Qo {l p}(h:p∈l):∃x,vU l p.1=some x:=by
 cases e:vU l p.1 with
 |some x=>simp
 |none=>exact absurd rfl (vMy e p h)
theorem Lx {k}{l:List zH}(hk:l.length<k)(hl:l.length<9223372036854775808) id:mq k l id=some (fm l id):=by
 have := Y7 (L := fun n i => F3 k n l id i) (N := l.length) (fun x => decide ((l.getD x pd).1 = id)) (fun n=>by
  show F4 k _ l id l.length=_;unfold F4;simp) (fun n j hj=>by
  show F4 k _ l id j=_;unfold F4;simp[zY,qB hj hl,aa hj]) l.length 0 k (by omega) hk
 have h1:F3 k k l id 0=some (Y6 (vU l id)):=this;unfold mq fm;rw[h1];cases vU l id<;>rfl
theorem F5 {k}{l:List zH}(hk:l.length<k)(hl:l.length<9223372036854775808) id:pt k l id=some (fm l id):=by
 have := Y7 (L := fun n i => F6 k n l l.length i id) (N := l.length) (fun x => decide ((l.getD x pd).1 = id)) (fun n=>by
  show F7 k _ l l.length l.length id=_;unfold F7;simp) (fun n j hj=>by
  show F7 k _ l l.length j id=_;unfold F7 Y8;simp only[zY,qB hj hl,qS,aa hj];rfl) l.length 0 k (by omega) hk
 have h1:F6 k k l l.length 0 id=some (Y6 (vU l id)):=this;unfold pt Y9 fm;rw[h1];cases vU l id<;>rfl
def yK (l:List zH)(x:Nat):List zH:=l.take x++l.drop (x+1)
theorem oc {l x}(h:x<l.length):(yK l x).length=l.length-1:=by
 unfold yK;grind
theorem uJ l x:List.Sublist (yK l x) l:=by
 unfold yK
 conv=>rhs;rw[←List.take_append_drop x l]
 grind
theorem qK.cut {l}(h:qK l) x:qK (yK l x):=List.Pairwise.sublist (uJ l x) h
theorem yYx k {l}{x:Nat}(hx:x<l.length)(hl:qT l):Ly k l x ((x+1:Nat):Int)=some (yK l x):=by
 unfold Ly;have c1:(decide ((0:Int)≤(x:Int)))=true:=by simp
 have c2:decide ((x:Int)≤((x+1:Nat):Int))=true:=aa (by omega);have c3:decide (((x+1:Nat):Int)≤(l.length:Int))=true:=aa (by omega);have c4:decide ((l.length:Int)≤(l.length:Int))=true:=by simp
 have c5:decide ((x:Int)=((x+1:Nat):Int))=false:=ab (by omega);have c6:decide ((x:Int)≤(l.length:Int))=true:=aa (by omega);have c7:decide ((0:Int)≤((x+1:Nat):Int))=true:=aa (by omega);have c8:Nat.ble (x-0) (0+(x+1))=true:=by simp
 simp only[ao,c1,c2,c3,c4,c5,c6,c7,c8,ak];have e0:x-0+(l.length-(x+1))=l.length-1:=by omega
 have e1:List.take (x-0) l++qM l (0+(x+1)) (l.length-(x+1))=yK l x:=by
  unfold qM yK;rw[Nat.sub_zero,Nat.zero_add]
  congr 1
  rw[List.take_of_length_le];rw[List.length_drop];exact Nat.le_refl _
 have e2:(qM (yK l x++List.drop (l.length-1) l) 0 (l.length-1))=yK l x:=by
  unfold qM;rw[List.drop_zero,List.take_append_of_le_length (by rw[oc hx];exact Nat.le_refl _),List.take_of_length_le (by rw[oc hx];exact Nat.le_refl _)]
 have e3:(yK l x++List.drop (l.length-1) l).length=l.length:=by
  rw[ay,List.length_drop,oc hx];omega
 have c9:decide ((0:Int)≤((yK l x).length:Int))=true:=by simp
 have Qp:decide (((yK l x).length:Int)≤(l.length:Int))=true:=by grind
 have B4:decide ((l.length:Int)≤((l.length-0:Nat):Int))=true:=by simp
 have e4:List.take (0+(yK l x).length) (yK l x++List.drop (l.length-1) l)=yK l x:=by
  rw[Nat.zero_add,List.take_append_of_le_length (Nat.le_refl _),List.take_of_length_le (Nat.le_refl _)]
 simp only[e0,e1,e2,e3,c9,Qp,B4,e4,Bool.and_true,ai];rw[List.append_assoc,List.take_append_of_le_length (by rw[oc hx];exact Nat.le_refl _),List.take_of_length_le (by rw[oc hx];exact Nat.le_refl _)]
def iF (l:List zH)(id:Int):List zH×Int×Int×Int×Int×Int×Int×Int×Int:=match vU l id with
 |some x=>(yK l x,(l.getD x pd).1,(l.getD x pd).2.1,(l.getD x pd).2.2.1,(l.getD x pd).2.2.2.1,(l.getD x pd).2.2.2.2.1,(l.getD x pd).2.2.2.2.2.1,(l.getD x pd).2.2.2.2.2.2,0)
 |none=>(l,0,0,0,0,0,0,0,4)
theorem B5 {k l}(hk:l.length<k)(hl:qT l) id:qo k l id=some (iF l id):=by
 unfold qT at hl;unfold qo;rw[F5 hk (by omega)];unfold fm iF;cases hp:vU l id with
 |none=>rfl
 |some x=>
  have hx:=(kQ hp).1;have e1:decide ((x:Int)<0)=false:=by simp
  have e2:xS k l=some l:=by
   unfold xS;rw[qE (by omega) (by omega)];rfl
  simp only[ae,e1,ak,e2,qB hx (by grind),yYx k hx hl,zY,aa hx,ai,ao]
def wB (q p:zH):Bool:=decide (q.2.1<p.2.1)||(decide (q.2.1=p.2.1)&&decide (q.2.2.2.2.1≤p.2.2.2.2.1))
def iW (q p:zH):Bool:=decide (q.2.1<p.2.1)||(decide (q.2.1=p.2.1)&&decide (q.2.2.2.2.1<p.2.2.2.2.1))
theorem vY7 n x y:Qq (n+3) [x,y]=some (if x=0 then y else x):=by
 have key:∀n:Nat,LA (n+3) (n+3) 0 [x,y] 2 0=bif !decide (x=0) then some (.inr x) else bif !decide (y=0) then some (.inr y) else some (.inl 0):=fun n=>rfl
 unfold Qq;grind
theorem vOg k a b:LB k a b=some (if a<b then-1 else if a>b then 1 else 0):=by
 unfold LB Qr;grind
theorem Za {k}(hk:3≤k) q p:∃x,F8 k q.1 q.2.1 q.2.2.1 q.2.2.2.1 q.2.2.2.2.1 q.2.2.2.2.2.1 q.2.2.2.2.2.2 p.1 p.2.1 p.2.2.1 p.2.2.2.1 p.2.2.2.2.1 p.2.2.2.2.2.1 p.2.2.2.2.2.2=some x∧decide (x≤0)=wB q p∧decide (x<0)=iW q p:=by
 obtain⟨n,rfl⟩:∃n,k=n+3:=⟨k-3,by omega⟩;unfold F8;simp only[vOg,vY7];refine⟨_,rfl,?_,?_⟩
 ·unfold wB;grind
 ·unfold iW;grind
def LC (ok:Nat→Bool):Nat→Nat→Nat
 |0,i=>i
 |c+1,i=>bif ok i then LC ok c (i+1) else i
theorem F9 {X:Type}{L:Nat→Int→Option X}{N:Nat} ok (e:Nat→X)(bM:∀n,L (n+1) (N:Int)=some (e N))
  (aI:∀n i,i<N→L (n+1) (i:Int)=bif ok i then L n ((i+1:Nat):Int) else some (e i)):∀c i n,i+c=N→c<n→L n (i:Int)=some (e (LC ok c i))
 |0,i,n,h,hn=>by
  obtain⟨n,rfl⟩:∃m,n=m+1:=⟨n-1,by omega⟩;have:i=N:=by omega
  subst this;exact bM n
 |c+1,i,n,h,hn=>by
  obtain⟨n,rfl⟩:∃m,n=m+1:=⟨n-1,by omega⟩;rw[aI n i (by omega)];unfold LC;cases ok i with
  |false=>rfl
  |true=>exact F9 ok e bM aI c (i+1) n (by omega) (by omega)
theorem Ga {α:Type} f (l:List α) d:∀c i,i+c=l.length→LC (fun x=>f (l.getD x d)) c i=i+((l.drop i).takeWhile f).length
 |0,i,h=>by
  rw[List.drop_eq_nil_of_le (by omega)];rfl
 |c+1,i,h=>by
  rw[List.drop_eq_getElem_cons (by grind)];unfold LC;have e:l.getD i d=l[i]:=by grind
  rw[e];cases hf:f l[i] with
  |false=>rw[List.takeWhile_cons_of_neg (by simp[hf])];rfl
  |true=>
   rw[List.takeWhile_cons_of_pos hf,ai,Ga f l d c (i+1) (by omega),List.length_cons];omega
theorem oe {α:Type} f (l:List α):l.take (l.takeWhile f).length=l.takeWhile f∧l.drop (l.takeWhile f).length=l.dropWhile f:=by
 have e:=List.takeWhile_append_dropWhile (p:=f) (l:=l);grind
theorem B6 {α:Type} f (l:List α):(l.takeWhile f).length≤l.length:=(List.takeWhile_sublist f).length_le
theorem Zb {α b} f l (p:α)(hl:l.length≤1000)(hb:b≤1000):ins b l (((l.takeWhile f).length:Nat):Int) [p]=some (l.takeWhile f++(p::l.dropWhile f)):=by
 unfold ins;have h:=B6 f l;have hm:(l.length+1)*b≤1001*1000:=Nat.mul_le_mul (by omega) hb;rw[aa (by simp),aa (by grind),qE (by grind) (by omega),ao,(oe f l).1,(oe f l).2];rfl
def pv (l:List zH)(p:zH):List zH:=l.takeWhile (fun q=>wB q p)++(p::l.dropWhile (fun q=>wB q p))
def LD (l:List zH)(p:zH):List zH:=l.takeWhile (fun q=>iW q p)++(p::l.dropWhile (fun q=>iW q p))
theorem vB4 {k l}(hl:qT l):xS k l=some l:=by
 unfold qT at hl;unfold xS;rw[qE (by omega) (by omega)];rfl
theorem vWx {k}(hk:3≤k) l (hl:qT l)(bL:l.length<k)(p:zH):LF k k l 0 p=some (l,(((l.takeWhile (fun q=>wB q p)).length:Nat):Int),p):=by
 unfold qT at hl;have := F9 (L := fun n i => LF k n l i p) (N := l.length) (fun x => wB (l.getD x pd) p) (fun i => (l, (i : Int), p)) (fun n=>by
  show Gc k _ l l.length p=_;unfold Gc;simp) (fun n i hi=>by
  show Gc k _ l i p=_;unfold Gc;obtain⟨x,h1,h2,_⟩:=Za hk (l.getD i pd) p;simp only[zY,qS,ao,aa hi,h1,ae,h2,qB hi (by grind)];rfl) l.length 0 k (by omega) bL
 have e:((0:Nat):Int)=0:=rfl;rw[e] at this;rw[this,Ga (fun q=>wB q p) l pd l.length 0 (by omega),List.drop_zero,Nat.zero_add]
theorem Zc {k l}(hk:3≤k)(bL:l.length<k)(hl:qT l)(p:zH):
  xT k l p=some (bif (vU l p.1).isSome then(l,6) else bif decide (40≤l.length) then(l,3) else(pv l p,0)):=by
 have dO:=hl;unfold qT at hl;unfold xT;rw[F5 bL (by omega)];unfold fm;cases hp:vU l p.1 with
 |some x=>
  rfl
 |none=>
  by_cases h:40≤l.length
  ·grind
  ·rw[ab h,ab (by grind)];simp[vWx hk l dO bL,vB4 dO,Qs];rw[Zb _ l p hl (by decide)];rfl
theorem Zd {l x}(h:qT l):qT (yK l x):=by
 unfold qT at*
 have:=(uJ l x).length_le;omega
def LG (l:List zH)(id:Int):List zH:=match vU l id with|some x=>yK l x|none=>l
theorem yO9 {l id}(hd:qK l):vU (LG l id) id=none:=by
 cases h:vU (LG l id) id with
 |none=>rfl
 |some y=>
  exfalso;obtain⟨h1,h2⟩:=kQ h;unfold LG at h h1 h2;cases hp:vU l id with
  |none=>
   rw[hp] at h;rw[hp] at h;cases h
  |some x=>
   rw[hp] at h1 h2;obtain⟨h3,h4⟩:=kQ hp;have hm:=jY (d:=pd) h1;have e:=Qn l x pd h3;rw[e] at hd;have LH:=List.pairwise_append.1 hd;have Ze:=List.pairwise_cons.1 LH.2.1;rcases List.mem_append.1 hm with hm|hm
   ·exact LH.2.2 _ hm _ (List.mem_cons_self ..) (h2.trans h4.symm)
   ·exact Ze.1 _ hm (h4.trans h2.symm)
theorem vRz {k l}(hk:3≤k)(bL:l.length<k)(hl:qT l)(hd:qK l)(h40:l.length≤40){id x}(hx:vU l id=some x) c:
  Gd k l id c=some (pv (yK l x) ((l.getD x pd).1,(l.getD x pd).2.1,(l.getD x pd).2.2.1,(l.getD x pd).2.2.2.1,c,(l.getD x pd).2.2.2.2.2.1,(l.getD x pd).2.2.2.2.2.2),0):=by
 have dw:=kQ hx;have hw:=yO9 (id:=id) hd;unfold LG at hw;have hlen:=oc dw.1;unfold Gd;rw[B5 bL hl];unfold iF;rw[hx];simp;rw[Zc hk (by omega) (Zd hl)];grind
theorem Zf {k l}(hk:3≤k)(bL:l.length<k)(hl:qT l)(hd:qK l)(h40:l.length≤40){id x}(hx:vU l id=some x):
  Ge k l id=some (pv (yK l x) (l.getD x pd),0):=by
 have dw:=kQ hx;have hw:=yO9 (id:=id) hd;unfold LG at hw;have hlen:=oc dw.1;unfold Ge;rw[B5 bL hl];unfold iF;rw[hx];simp;rw[Zc hk (by omega) (Zd hl)];grind
theorem vQm {k}(hk:3≤k) l (hl:qT l)(bL:l.length<k)(p:zH):LI k k 0 l p=some ((((l.takeWhile (fun q=>iW q p)).length:Nat):Int),l,p):=by
 unfold qT at hl;have := F9 (L := fun n i => LI k n i l p) (N := l.length) (fun x => iW (l.getD x pd) p) (fun i => ((i : Int), l, p)) (fun n=>by
  show Gf k _ l.length l p=_;unfold Gf;simp) (fun n i hi=>by
  show Gf k _ i l p=_;unfold Gf;obtain⟨x,h1,_,h2⟩:=Za hk (l.getD i pd) p;simp only[zY,qS,ao,aa hi,h1,ae,h2,qB hi (by grind)];rfl) l.length 0 k (by omega) bL
 have e:((0:Nat):Int)=0:=rfl;rw[e] at this;rw[this,Ga (fun q=>iW q p) l pd l.length 0 (by omega),List.drop_zero,Nat.zero_add]
theorem vLw {k l}(hk:3≤k)(bL:l.length<k)(hl:qT l){id x}(hx:vU l id=some x):
  Gg k l id=some (LD (yK l x) (l.getD x pd),0):=by
 have dO:=hl;unfold qT at hl;have dw:=kQ hx;have hlen:=oc dw.1;have e1:decide ((x:Int)<0)=false:=by simp
 unfold Gg Zg;rw[F5 bL (by omega)];unfold fm;rw[hx];simp only[ae,e1,ak,vB4 dO,qB dw.1 (by grind),yYx k dw.1 dO,zY,aa dw.1,ai];rw[vQm hk (yK l x) (Zd dO) (by omega)];simp[Qs];rw[Zb _ (yK l x) _ (by omega) (by decide)];rfl
def idx (l:AC)(id:Int):Nat:=(l.takeWhile (fun x=>decide (x<id))).length
theorem vLz {x}(h0:0≤x)(h1:x<9223372036854775808):zA (shr .u64 (IntKind.wrap .u64 (zA x)) 1)=x/2:=by
 have e1:zA x=x:=zO (by omega) h1;have e2:IntKind.wrap .u64 x=x:=by
  unfold IntKind.wrap;simp[IntKind.bits];omega
 rw[e1,e2];have e3:shr .u64 x 1=x/2:=by
  have:(2:Int)^(min (1:Int).toNat (IntKind.bits .u64))=2:=by decide
  grind
 rw[e3];exact zO (by omega) (by omega)
theorem Zh k a b:Qt k a b=some (decide (a<b)):=by
 unfold Qt Qu;simp
theorem Zi {k l id}(hl:l.length≤1000){c:Nat}(hc:c≤l.length)(h1:∀x,x<c→l.getD x 0<id)(h2:∀x,c≤x→x<l.length→id≤l.getD x 0) s6:
  ∀n i j,i≤c→c≤j→j≤l.length→j-i<n→LJ k n l id s6 i j=some (l,id,s6,(c:Int))
 |n+1,i,j,hi,hj,sg,hn=>by
  show Qv k (LJ k n) l id s6 i j=_;unfold Qv;rw[qS];by_cases mM:i<j
  ·have hh:zA (shr .u64 (IntKind.wrap .u64 (zA ((i:Int)+(j:Int)))) 1)=(((i+j)/2:Nat):Int):=by
    rw[vLz (by omega) (by omega)];omega
   have hm:(i+j)/2<l.length:=by omega
   rw[aa mM,ai,hh,zY,aa hm,ai,Zh];simp only[ae,ao];by_cases bd:(i+j)/2<c
   ·rw[aa (h1 _ bd),ai,qB hm (by omega)];exact Zi hl hc h1 h2 s6 n _ j (by omega) hj sg (by omega)
   ·rw[ab (by grind),ak];exact Zi hl hc h1 h2 s6 n i _ hi (by omega) (by omega) (by omega)
  grind
theorem Zj {k l id}(bL:l.length<k)(hl:l.length≤1000){c:Nat}(hc:c≤l.length)(h1:∀x,x<c→l.getD x 0<id)(h2:∀x,c≤x→x<l.length→id≤l.getD x 0):
  Gh k l id=some ((c:Int),decide (c<l.length)&&decide (l.getD c 0=id)):=by
 unfold Gh;have:=Zi (k:=k) hl hc h1 h2 (l.length:Int) k 0 l.length (by omega) hc (by simp) (by omega);rw[show((0:Nat):Int)=0 from rfl] at this;rw[this];simp only[ae,zY,ao];by_cases h:c<l.length
 ·simp only[aa h];by_cases h3:l.getD c 0=id
  ·simp_all
  ·rw[ab h3];unfold Qw;simp
 grind
def qp (l:AC):Prop:=List.Pairwise (fun a b=>a<b) l
theorem vGo {l id}:∀x,x<idx l id→l.getD x 0<id:=by
 intro x hx;unfold idx at hx;have h:=oe (fun x=>decide (x<id)) l;have e:l.getD x 0=(l.takeWhile (fun x=>decide (x<id))).getD x 0:=by
  grind
 have hm:=jY (d:=(0:Int)) hx;have:=List.all_eq_true.1 (List.all_takeWhile (p:=fun x=>decide (x<id)) (l:=l)) _ hm;simp_all
theorem vJe {l}(ha:qp l){id}:∀x,idx l id≤x→x<l.length→id≤l.getD x 0:=by
 intro x hx hl;have hi:idx l id<l.length:=by omega
 have h:=oe (fun x=>decide (x<id)) l;have h0:¬l.getD (idx l id) 0<id:=by
  have hd:l.drop (idx l id)=l[idx l id]::l.drop (idx l id+1):=by simp
  have h2:=h.2;unfold idx at hd;rw[h2] at hd;have bx:l.dropWhile (fun x=>decide (x<id))≠[]:=by rw[hd];simp
  have:=List.head_dropWhile_not (fun x=>decide (x<id)) bx;have e:(l.dropWhile (fun x=>decide (x<id))).head bx=l[idx l id]:=by
   unfold idx;simp_all
  simp_all
 by_cases e:x=idx l id
 ·rw[e];omega
 ·have:=List.pairwise_iff_getElem.1 ha (idx l id) x hi hl (by omega);grind
theorem Zk {l}(ha:qp l) id:(decide (idx l id<l.length)&&decide (l.getD (idx l id) 0=id))=decide (id∈l):=by
 by_cases hm:id∈l
 ·obtain⟨x,hx,e⟩:=List.getElem_of_mem hm;have e':l.getD x 0=id:=by simp_all
  have h1:¬x<idx l id:=fun h=>by have:=vGo x h;omega
  have h3:idx l id<l.length:=by omega
  have h4:¬idx l id<x:=fun h=>by
   have g1:=vJe ha (id:=id) (idx l id) (by simp) h3;have g2:=List.pairwise_iff_getElem.1 ha (idx l id) x h3 hx h;grind
  grind
 grind
def qq (l:AC)(id:Int):AC:=l.takeWhile (fun x=>decide (x<id))++(id::l.dropWhile (fun x=>decide (x<id)))
theorem yVj {k l}(bL:l.length<k)(hl:l.length≤1000)(ha:qp l) id:Gh k l id=some ((idx l id:Int),decide (id∈l)):=by
 rw[Zj bL hl (B6 _ l) vGo (vJe ha)];show some ((idx l id:Int),decide (idx l id<l.length)&&decide (l.getD (idx l id) 0=id))=_;rw[Zk ha]
theorem Zl {k l}(bL:l.length<k)(hl:l.length≤1000)(ha:qp l) id:Qx k l id=some (decide (id∈l)):=by
 unfold Qx;rw[yVj bL hl ha];rfl
theorem Zm {k l}(bL:l.length<k)(hl:l.length≤1000)(ha:qp l) id:
  Gj k l id=some (bif decide (id∈l) then(l,6) else bif decide (200≤l.length) then(l,3) else(qq l id,0)):=by
 unfold Gj;rw[yVj bL hl ha];by_cases hm:id∈l
 ·simp_all
 ·rw[ab hm];by_cases h:200≤l.length
  ·grind
  ·rw[ab h,ab (by grind)];have e2:qi k l=some l:=by
    unfold qi;rw[qE (by omega) (by omega)];rfl
   simp[e2,yVg];unfold idx;rw[Zb _ l id hl (by decide)];rfl
def kR (l:AC):Int:=zP (fun x=>x) l
def xU (x:Int):Bool:=decide (-9223372036854775808≤x)&&decide (x<9223372036854775808)
theorem yT4 x:shr .i64 x 63=x/9223372036854775808:=by
 show x.fdiv (2^(min 63 64))=_;grind
theorem qs x:IntKind.wrap .u64 x=x%18446744073709551616:=by
 rfl
theorem Zn {x}(h:0≤x∧x<18446744073709551616):zA x=if x<9223372036854775808 then x else x-18446744073709551616:=by
 unfold zA IntKind.wrap;simp[IntKind.bits,IntKind.signed];grind
theorem vK5 (l:AC) i (hi:i<l.length):kR (l.take (i+1))=kR (l.take i)+l.getD i 0:=by
 have:l.take (i+1)=l.take i++[l.getD i 0]:=by
  simp_all
 unfold kR;rw[this,kO];simp[zP]
theorem Zo {k l}(hk:l.length<k)(hl:l.length≤1000000)(hw:∀i,i<l.length→-9223372036854775808≤l.getD i 0∧l.getD i 0<9223372036854775808):
  Gk k l=some (bif xU (kR l) then(kR l,true) else(0,false)):=by
 obtain ⟨s', g1, g2, g3, g4⟩ := yZ (L := fun n i (s : Int × Int) => Gl k n s.1 s.2 l (l.length : Int) i) (N := l.length) (fun s => (s.1, s.2)) (fun i s => (0 ≤ s.2 ∧ s.2 < 18446744073709551616) ∧ s.1 * 18446744073709551616 + s.2 = kR (l.take i) ∧ (-(i : Int) ≤ s.1 ∧ s.1 ≤ i)) (fun n s _=>by
  show Gm k _ s.1 s.2 l l.length l.length=_;unfold Gm;simp only [qS, ab (Nat.lt_irrefl _), ak]) (fun n i s hi hs=>by
  obtain⟨h,lo⟩:=s;obtain⟨⟨h1,h2⟩,h3,h4⟩:=hs;simp only at h1 h2 h3 h4;show∃s',Gm k _ h lo l l.length i=_∧_;unfold Gm BF;have hb:=hw i hi;have hsn:=vK5 l i hi;obtain⟨v,hv⟩:∃v,l.getD i 0=v:=⟨_,rfl⟩;rw[hv] at hb hsn;simp only[qS,zY,ao,aa hi,ai,hv,qs,yT4,decide_true,ae,qB hi (show l.length<9223372036854775808 by omega)];obtain⟨u,hu⟩:∃u,v%18446744073709551616=u:=⟨_,rfl⟩;rw[hu];obtain⟨q,hq⟩:∃q,v/9223372036854775808=q:=⟨_,rfl⟩;rw[hq];have rY:u=v-q*18446744073709551616:=by omega
  have pw:q=0∨q= -1:=by omega
  obtain⟨a,ha⟩:∃a:Nat,lo.toNat+u.toNat+0=a:=⟨_,rfl⟩;rw[ha];have rT:(a:Int)=lo+u:=by omega
  obtain⟨c,hc⟩:∃c:Nat,a/18446744073709551616=c:=⟨_,rfl⟩;obtain⟨m,hm⟩:∃c:Nat,a%18446744073709551616=c:=⟨_,rfl⟩;rw[hc,hm];have hcm:a=c*18446744073709551616+m:=by omega
  have pc:m<18446744073709551616:=by omega
  have lT:c≤1:=by omega
  have e1:zA (Int.ofNat c)=(c:Int):=zO (by show(_:Int)≤((c:Nat):Int);omega) (by show((c:Nat):Int)<_;omega);have e2:zA (q+(c:Int))=q+c:=zO (by omega) (by omega);have e3:zA (h+(q+(c:Int)))=h+(q+c):=zO (by omega) (by omega);rw[e1,e2,e3];refine⟨(h+(q+c),(m:Int)),rfl,by grind,?_,?_⟩
  ·rw[hsn];show(h+(q+c))*18446744073709551616+(m:Int)=_;omega
  ·show-((i+1:Nat):Int)≤h+(q+c)∧h+(q+c)≤((i+1:Nat):Int);omega) (s:=(0,0)) hk ⟨⟨by show(0:Int)≤0;omega,by show(0:Int)<_;omega⟩,rfl,by show-((0:Nat):Int)≤0;omega,by show(0:Int)≤((0:Nat):Int);omega⟩
 have B7:Gl k k 0 0 l (l.length:Int) 0=some (s'.1,s'.2):=g1;rw[List.take_length] at g3;unfold Gk;rw[B7];simp only[ae,yT4];rw[Zn g2];by_cases c:xU (kR l)=true
 ·have c':-9223372036854775808≤kR l∧kR l<9223372036854775808:=by simpa[xU] using c
  rw[c];by_cases d:s'.2<9223372036854775808
  ·rw[if_pos d,aa (show s'.1=s'.2/9223372036854775808 by omega)];simp only[az,ak,ai];rw[show s'.2=kR l by omega]
  ·rw[if_neg d,aa (show s'.1=(s'.2-18446744073709551616)/9223372036854775808 by omega)];simp only[az,ak,ai];rw[show s'.2-18446744073709551616=kR l by omega]
 ·have c':¬(-9223372036854775808≤kR l∧kR l<9223372036854775808):=by simpa[xU] using c
  rw[Bool.not_eq_true] at c;rw[c];by_cases d:s'.2<9223372036854775808
  ·rw[if_pos d,ab (show¬s'.1=s'.2/9223372036854775808 by omega)];rfl
  ·rw[if_neg d,ab (by grind)];rfl
theorem Zp {x}(h:0≤x):yP .u64 x 4294967295=x%4294967296:=by
 obtain⟨n,rfl⟩:=Int.eq_ofNat_of_zero_le h;unfold yP tG;rw[qs];have e1:(BitVec.ofInt IntKind.u64.bits (n:Int)&&&BitVec.ofInt IntKind.u64.bits 4294967295).toNat=n%4294967296:=by
  rw[BitVec.toNat_and,BitVec.toNat_ofInt,BitVec.toNat_ofInt];have e2:((4294967295:Int)%((2^IntKind.u64.bits:Nat):Int)).toNat=2^32-1:=by decide
  rw[e2,Nat.and_two_pow_sub_one_eq_mod];have e3:((n:Int)%((2^IntKind.u64.bits:Nat):Int)).toNat=n%18446744073709551616:=by
   rfl
  omega
 grind
theorem Zq x:shr .u64 x 32=x/4294967296:=by
 show x.fdiv (2^(min 32 64))=_;grind
theorem vW6 {a1 a0 b1 b0:Int}:(a1*4294967296+a0)*(b1*4294967296+b0)=a1*b1*18446744073709551616+(a1*b0+a0*b1)*4294967296+a0*b0:=by
 grind
theorem wF {a b A B:Int}(h0:0≤a)(h1:a≤A)(g0:0≤b)(g1:b≤B):0≤a*b∧a*b≤A*B:=
 ⟨Int.mul_nonneg h0 g0,Int.mul_le_mul h1 g1 g0 (by omega)⟩
theorem vF5 (k:Nat){x y:Int}(hx:0≤x∧x<18446744073709551616)(hy:0≤y∧y<18446744073709551616):Gn k x y=some (x*y/18446744073709551616,x*y%18446744073709551616):=by
 unfold Gn;simp only[Zq,Zp hx.1,Zp hy.1,qs];obtain⟨a1,h1⟩:∃a,x/4294967296=a:=⟨_,rfl⟩;obtain⟨a0,h0⟩:∃a,x%4294967296=a:=⟨_,rfl⟩;obtain⟨b1,g1⟩:∃a,y/4294967296=a:=⟨_,rfl⟩;obtain⟨b0,g0⟩:∃a,y%4294967296=a:=⟨_,rfl⟩;have hxe:x=a1*4294967296+a0:=by omega
 have hye:y=b1*4294967296+b0:=by omega
 rw[h1,h0,g1,g0];have Qy:0≤a1∧a1≤4294967295:=by omega
 have nI:0≤a0∧a0≤4294967295:=by omega
 have j6:0≤b1∧b1≤4294967295:=by omega
 have Qz:0≤b0∧b0≤4294967295:=by omega
 have p11:=wF Qy.1 Qy.2 j6.1 j6.2;have uv:=wF Qy.1 Qy.2 Qz.1 Qz.2;have p01:=wF nI.1 nI.2 j6.1 j6.2;have p00:=wF nI.1 nI.2 Qz.1 Qz.2;have P4:x*y=a1*b1*18446744073709551616+(a1*b0+a0*b1)*4294967296+a0*b0:=by rw[hxe,hye,vW6]
 rw[P4];generalize a1*b1=u at*
 generalize a1*b0=v at*
 generalize a0*b1=s at*
 generalize a0*b0=t at*
 have c1:(t%18446744073709551616)=t:=by omega
 have c2:(v%18446744073709551616+t/4294967296)%18446744073709551616=v+t/4294967296:=by omega
 rw[c1,c2];have LK:yP .u64 (v+t/4294967296) 4294967295=(v+t/4294967296)%4294967296:=Zp (by omega);rw[LK];refine congrArg some (Prod.ext ?_ ?_)
 ·show _%_=_/_;omega
 ·rfl
theorem Zr k {x}(hx:0≤x∧x<18446744073709551616):Gp k 0 x 10000=some (x/10000,x%10000):=by
 unfold Gp;have e1:decide ((10000:Int)=0)=false:=rfl;have e2:decide ((10000:Int)≤0)=false:=rfl;simp[qs];grind
def uK (price many cut:Int):Int:=price*many*(10000-cut)/10000
theorem yJ1 {p m c}(hp:0≤p∧p≤1048576)(hm:0≤m∧m≤1099511627776)(hc:0≤c∧c≤10000):0≤uK p m c∧uK p m c≤1152921504606846976:=by
 have h1:=wF hp.1 hp.2 hm.1 hm.2;have h2:=wF h1.1 h1.2 (by grind) (show 10000-c≤10000 by omega);unfold uK;omega
theorem vWw k {p m c}(hp:0≤p∧p≤1048576)(hm:0≤m∧m≤1099511627776)(hc:0≤c∧c≤10000):Gq k p m c=some (uK p m c,true):=by
 unfold Gq LL;have w1:zA (10000-c)=10000-c:=zO (by omega) (by omega);have e1:decide (p<0)=false:=ab (by omega);have e2:decide (m<0)=false:=ab (by omega);have e3:decide (c≥0)=true:=aa (by omega);have e4:decide (c≤10000)=true:=aa (by omega);have u1:p%18446744073709551616=p:=by omega
 have u2:m%18446744073709551616=m:=by omega
 have u3:(10000-c)%18446744073709551616=10000-c:=by omega
 have h1:=wF hp.1 hp.2 hm.1 hm.2;have hP:p*m/18446744073709551616=0:=by omega
 have hP2:p*m%18446744073709551616=p*m:=by omega
 have t0:Int.tmod 0 10000=0:=by simp
 have t1:Int.tdiv 0 10000=0:=by simp
 rw[e1,e2,e3,e4,ak,ak,ai,ae,az,ak,qs p,qs m,u1,u2,vF5 k (by grind) (by grind),ae,hP,hP2];dsimp only;rw[t0,t1,Zr k (by grind),ae];dsimp only;rw[w1,qs (10000-c),u3];unfold uK;obtain⟨l,hl⟩:∃l,10000-c=l:=⟨_,rfl⟩;rw[hl];obtain⟨P,hPe⟩:∃P,p*m=P:=⟨_,rfl⟩;rw[hPe] at h1⊢;have dO:0≤l∧l≤10000:=by omega
 rw[vF5 k (by grind) (by grind)];have hq:=wF (show 0≤P/10000 by omega) (show P/10000≤115292150460684 by omega) dO.1 dO.2;have hr:=wF (show 0≤P%10000 by omega) (show P%10000≤9999 by omega) dO.1 dO.2;have B8:P*l=P/10000*l*10000+P%10000*l:=by
  grind
 rw[B8];generalize P/10000*l=a at*
 generalize P%10000*l=b at*
 have v1:a/18446744073709551616=0:=by omega
 have v2:a%18446744073709551616=a:=by omega
 have v3:b%18446744073709551616=b:=by omega
 have v4:Int.tdiv b 10000=b/10000:=Int.tdiv_eq_ediv_of_nonneg hr.1;have v5:b/10000%18446744073709551616=b/10000:=by omega
 have ha:BF k a (b/10000) 0=some (a+b/10000,0):=by
  have n1:(Int.ofNat ((a.toNat+(b/10000).toNat+0)%18446744073709551616))=a+b/10000:=by rw[Int.ofNat_eq_natCast];omega
  have n2:(Int.ofNat ((a.toNat+(b/10000).toNat+0)/18446744073709551616))=0:=by rw[Int.ofNat_eq_natCast];omega
  unfold BF;rw[aa rfl,ai,n1,n2]
 rw[ae];dsimp only;rw[v1,v2,qs b,v3,v4,qs (b/10000),v5,ha,ae];dsimp only;have z1:IntKind.wrap .u64 0=0:=by rw[qs];omega
 have z2:IntKind.wrap .u64 (0+0)=0:=by rw[qs];omega
 have z5:zA (a+b/10000)=a+b/10000:=zO (by omega) (by omega);grind
abbrev og:=Int×Int
abbrev uL:og:=(0,0)
def oh (sa:List og)(pr h:AC)(i:Nat):Int:=uK (pr.getD i 0) (h.getD i 0) (sa.getD i uL).2
def gG (sa:List og)(pr h:AC):Int:=qG (oh sa pr h) sa.length
structure kh (sa:List og) (pr h:AC):Prop where
 n3:sa.length≤3
 pl:pr.length=sa.length
 hl:h.length=sa.length
 cut:∀i,i<sa.length→0≤(sa.getD i uL).2∧(sa.getD i uL).2≤10000
 price:∀i,i<sa.length→0≤pr.getD i 0∧pr.getD i 0≤1048576
 hold:∀i,i<sa.length→0≤h.getD i 0∧h.getD i 0≤1099511627776
theorem LM {sa pr h}(L:kh sa pr h){i}(hi:i<sa.length):0≤oh sa pr h i∧oh sa pr h i≤1152921504606846976:=yJ1 (L.price i hi) (L.hold i hi) (L.cut i hi)
theorem Zs g:∀n,kR ((List.range n).map g)=qG g n
 |0=>rfl
 |n+1=>by
  rw[List.range_succ,List.map_append];unfold kR;rw[kO];have:=Zs g n;unfold kR at this;rw[this];show qG g n+(g n+0)=qG g n+g n;omega
theorem QA {g A}:∀{n},(∀j,j<n→0≤g j∧g j≤A)→0≤qG g n∧qG g n≤n*A
 |0,_=>by simp[qG]
 |n+1,h=>by
  have h1:=QA (n:=n) (fun j hj=>h j (by omega));have h2:=h n (by omega);have h3:((n+1:Nat):Int)*A=n*A+A:=by grind
  show 0≤qG g n+g n∧qG g n+g n≤_;omega
theorem Zt {k:Nat}{sa:List og}{pr h:AC}(L:kh sa pr h)(hk:10≤k):qt k k pr h sa sa.length 0 []=some (.inl ((List.range sa.length).map (oh sa pr h))):=by
 have hn:=L.n3;obtain ⟨s', h1, h2⟩ := yZ (L := fun n i (s : AC) => qt k n pr h sa sa.length i s) (N := sa.length) (fun s => .inl s) (fun i s => s = (List.range i).map (oh sa pr h)) (fun n s _=>by
  show sS k _ pr h sa sa.length sa.length s=_;unfold sS;simp only [qS, ab (Nat.lt_irrefl _), ak]) (fun n i s hi hs=>by
  refine⟨s++[oh sa pr h i],?_,?_⟩
  ·show sS k _ pr h sa sa.length i s=_;unfold sS;have dz:s.length≤3:=by rw[hs,List.length_map,List.length_range];omega
   have hw:=vWw k (L.price i hi) (L.hold i hi) (L.cut i hi);simp only[qS,zY,ao,aa hi,aa (show i<pr.length by rw[L.pl];exact hi),aa (show i<h.length by rw[L.hl];exact hi),ai,qB hi (show sa.length<9223372036854775808 by omega)];rw[hw];simp only[ae,az,ak,qE (show(s.length+1)*8≤140737488355328 by omega) (show s.length+1≤140737488355328 by omega),ai];rfl
  ·rw[hs,List.range_succ,List.map_append];rfl) (s:=[]) (show sa.length<k by omega) rfl
 have fg:qt k k pr h sa sa.length 0 []=_:=h1;rw[fg,h2]
theorem Zu {k sa pr h}(L:kh sa pr h)(hk:10≤k):mY k sa pr h=some (gG sa pr h,true):=by
 have hn:=L.n3;have hb:=QA (g:=oh sa pr h) (n:=sa.length) (fun j hj=>LM L hj);unfold mY;have e1:decide ((pr.length:Int)=(sa.length:Int))=true:=aa (by rw[L.pl]);have e2:decide ((h.length:Int)=(sa.length:Int))=true:=aa (by rw[L.hl]);simp[e1,e2];rw[Zt L hk];simp;rw [Zo (by grind) (by grind) (fun i hi=>by
  rw[List.length_map,List.length_range] at hi;have:=LM L hi;grind)]
 rw[Zs];have e3:xU (qG (oh sa pr h) sa.length)=true:=by
  unfold xU;grind
 rw[e3];rfl
theorem Gr {sa pr h}(L:kh sa pr h):0≤gG sa pr h:=(QA (g:=oh sa pr h) (n:=sa.length) (fun j hj=>LM L hj)).1
theorem vF7 {k l}(hl:l.length≤1000){i}(h0:0≤i)(h1:i<l.length) v:qu k l i v=some (l.set i.toNat v):=by
 unfold qu;have e2:qi k l=some l:=by
  unfold qi;rw[qE (by omega) (by omega)];rfl
 simp[e2,aa (show i≥0 by omega),aa h1,ai,wU h0 h1]
theorem QB {a b m p l r}(hb:wS a b m p)(h:sM a b m p l r):
  qG (fun i=>(r.1.getD i ad).1) a.length=qG (fun i=>(a.getD i ad).1) a.length∧wS r.1 r.2.1 r.2.2.1 r.2.2.2.1∧(r.2.2.2.2=0∨(r.1=a∧r.2.1=b∧r.2.2.1=m∧r.2.2.2.1=p)):=by
 by_cases c:wH a.length l
 ·obtain⟨a',p',x,e⟩:=h.1 c;cases hi:kP a' b m p' with
  |false=>
   simp_all
  |true=>
   rw[hi] at e;subst e;refine⟨?_,Fh.1 hi,.inl rfl⟩;have e1:qG (fun i=>(a'.getD i ad).1) a.length=qG (fun i=>(a.getD i ad).1+zP (gB i) l) a.length:=sH fun j hj=>by rw[x.acct j hj]
   show qG (fun i=>(a'.getD i ad).1) a.length=_;rw[e1,EJ,Pu];have e2:zP (fun p=>qG (fun j=>gB j p) a.length) l=zP (fun _=>(0:Int)) l:=Pt fun p hp=>by
    obtain⟨f0,f1,t0,t1,ne,a1,a2,c1,c3⟩:=c.1 p hp;obtain⟨f,hf⟩:∃f:Nat,p.2.1=f:=⟨p.2.1.toNat,by omega⟩;obtain⟨t,ht⟩:∃t:Nat,p.2.2.1=t:=⟨p.2.2.1.toNat,by omega⟩;have g1:∀j,gB j p=(if j=t then p.2.2.2.1 else 0)+(if j=f then-p.2.2.2.1 else 0):=by
     unfold gB;omega
    rw[sH fun j _=>g1 j,EJ,BK,BK,if_pos (by omega),if_pos (by omega)];omega
   have e3:∀l:List zH,zP (fun _:zH=>(0:Int)) l=0:=by
    intro l
    induction l with
    |nil=>rfl
    |cons p l ih=>show 0+zP _ l=0;omega
   simp_all
 ·have e:=h.2 c;simp_all
abbrev BT:=List qY×EQ×AC×EQ
def qR (B:BT):Prop:=wS B.1 B.2.1 B.2.2.1 B.2.2.2
theorem Gs {k}(hk:100<k){B}(h:qR B){l:List zH}(hl:l.length≤80):
  ∃r,qm k B.1 B.2.1 B.2.2.1 B.2.2.2 l=some r∧BV k B.1 B.2.1 B.2.2.1 B.2.2.2 l=some r∧sM B.1 B.2.1 B.2.2.1 B.2.2.2 l r:=by
 obtain⟨r,h1,h2⟩:=P5 hk h hl;obtain⟨r',h3,h4⟩:=vX0 hk h hl;have:=h2.same h4;simp_all
def xV (B:BT)(l:List zH):Bool:=xQ B.1 B.2.1 B.2.2.1 B.2.2.2 l
def iG (k:Nat)(B:BT)(l:List zH):Option BT:=match qm k B.1 B.2.1 B.2.2.1 B.2.2.2 l with
 |some r=>bif decide (r.2.2.2.2=0)&&xV B l then some (r.1,r.2.1,r.2.2.1,r.2.2.2.1) else none
 |none=>none
theorem sU {k}(hk:100<k){B C}(h:qR B){l}(hl:l.length≤80)(hg:iG k B l=some C):qR C∧C.1.length=B.1.length:=by
 obtain⟨r,h1,h2,h3⟩:=Gs hk h hl;unfold iG at hg;rw[h1] at hg;simp only at hg;cases hc:decide (r.2.2.2.2=0)&&xV B l with
 |false=>
  simp_all
 |true=>
  rw[hc] at hg;simp  at hg;subst hg;refine⟨(QB h h3).2.1,?_⟩;by_cases c:wH B.1.length l
  ·obtain⟨a',p',x,e⟩:=h3.1 c;cases hi:kP a' B.2.1 B.2.2.1 p' with
   |false=>simp_all
   |true=>rw[hi] at e;subst e;exact x.al
  ·rw[h3.2 c]
def fW (k:Nat)(B:BT):List zH→Option (zH×BT)
 |[]=>none
 |p::l=>match iG k B [p] with
  |some C=>some (p,C)
  |none=>fW k B l
theorem B9 {k B C p}:∀{l},fW k B l=some (p,C)→p∈l∧iG k B [p]=some C
 |q::l,h=>by
  unfold fW at h;cases hg:iG k B [q] with
  |some D=>
   simp_all
  |none=>
   rw[hg] at h;have:=B9 h;simp_all
theorem vGg k B {m:List zH}{i}(hi:i<m.length):fW k B (m.drop i)=match iG k B [m.getD i pd] with
  |some C=>some (m.getD i pd,C)
  |none=>fW k B (m.drop (i+1)):=by
 rw[List.drop_eq_getElem_cons hi];have e:m.getD i pd=m[i]:=by simp_all
 rw[e];rfl
theorem QC l t:(wE l t).length≤l.length:=Nat.le_trans (List.length_filter_le _ _) (by grind)
theorem vKz m i (hi:i<m.length):qM m (0+i) (i+1-i)=[m.getD i pd]:=by
 unfold qM;rw[Nat.zero_add,show i+1-i=1 by omega,List.drop_eq_getElem_cons hi,bY,List.getElem?_eq_getElem hi];rfl
def fq (l:List zH)(id:Int):List zH:=(iF l id).1
theorem uM {l p}(h:p∈l):(fq l p.1).length+1=l.length∧List.Sublist (fq l p.1) l:=by
 obtain⟨x,hx⟩:=Qo h;unfold fq iF;rw[hx];have:=(kQ hx).1;refine⟨?_,uJ l x⟩;rw[oc this];omega
theorem Gt {l t p}(h:p∈wE l t):p∈l:=(List.mem_filter.1 (List.mem_filter.1 h).1).1
inductive hZ (k:Nat) (t:Int):BT→List zH→List zH→BT→List zH→Prop
 |stop {B:BT} {l:List zH} (h:fW k B (wE l t)=none):hZ k t B l [] B l
 |step {B C D:BT} {l m done:List zH} {p:zH} (h:fW k B (wE l t)=some (p,C)) (h':hZ k t C (fq l p.1) done D m):hZ k t B l (p::done) D m
theorem vCi {k}(hk:100<k){B}(h:qR B){l:List zH}(hl:l.length≤80):B1 k B.1 B.2.1 B.2.2.1 B.2.2.2 l=some (xV B l):=vPn hk h hl
theorem vGm {k}(hk:100<k){B}(h:qR B)(m:List zH)(hm:m.length≤1000):∀c i n,i+c=m.length→c<n→
  LN k n m.length i B.1 B.2.1 B.2.2.1 B.2.2.2 0 0 0 0 0 0 0 m = some (match fW k B (m.drop i) with
   |some (p,C)=>.inr (true,p.1,p.2.1,p.2.2.1,p.2.2.2.1,p.2.2.2.2.1,p.2.2.2.2.2.1,p.2.2.2.2.2.2,C.1,C.2.1,C.2.2.1,C.2.2.2)
   |none=>.inl (B.1,B.2.1,B.2.2.1,B.2.2.2,0,0,0,0,0,0,0))
 |0,i,n,e,hn=>by
  obtain⟨n,rfl⟩:∃x,n=x+1:=⟨n-1,by omega⟩;have:i=m.length:=by omega
  subst this;show Gu k _ m.length m.length B.1 B.2.1 B.2.2.1 B.2.2.2 0 0 0 0 0 0 0 m=_;unfold Gu;simp;rfl
 |c+1,i,n,e,hn=>by
  obtain⟨n,rfl⟩:∃x,n=x+1:=⟨n-1,by omega⟩;have hi:i<m.length:=by omega
  have ih:=vGm hk h m hm c (i+1) n (by omega) (by omega);show Gu k _ m.length i B.1 B.2.1 B.2.2.1 B.2.2.2 0 0 0 0 0 0 0 m=_;unfold Gu;obtain⟨r,h1,h2,h3⟩:=Gs hk h (l:=[m.getD i pd]) (by simp);have hf:=vCi hk h (l:=[m.getD i pd]) (by simp);simp[zY,qB hi (by grind)];rw[vGg k B hi];unfold iG;grind
def yWp (B:BT)(x:Option (zH×BT)):Int×Int×Int×Int×Int×Int×Int×(List (Int×Int×Int))×EQ×AC×EQ×Bool:=match x with
 |some (p,C)=>(p.1,p.2.1,p.2.2.1,p.2.2.2.1,p.2.2.2.2.1,p.2.2.2.2.2.1,p.2.2.2.2.2.2,C.1,C.2.1,C.2.2.1,C.2.2.2,true)
 |none=>(0,0,0,0,0,0,0,B.1,B.2.1,B.2.2.1,B.2.2.2,false)
theorem Zv {k}(hk:100<k){B}(h:qR B){l}(bL:l.length<k)(hl:qT l)(hd:qK l) t:QD k B.1 B.2.1 B.2.2.1 B.2.2.2 l t=some (yWp B (fW k B (wE l t))):=by
 unfold QD;rw[yX3 bL hl hd];have Gv:=QC l t;unfold qT at hl;have:=vGm hk h (wE l t) (by omega) (wE l t).length 0 k (by omega) (by omega);have e:((0:Nat):Int)=0:=rfl;rw[e,List.drop_zero] at this;simp;rw[this];cases fW k B (wE l t) with
 |none=>rfl
 |some x=>rfl
theorem yNm {k}(hk:100<k) t:∀n B (l r:List zH),qR B→qK l→l.length≤100→l.length<n→r.length+l.length≤1000→
  ∃(C:BT) (m done:List zH),LO k n t l B.1 B.2.1 B.2.2.1 B.2.2.2 r=some (m,C.1,C.2.1,C.2.2.1,C.2.2.2,r++done)∧hZ k t B l done C m∧qR C∧C.1.length=B.1.length∧List.Sublist m l
 |n+1,B,l,r,hb,hd,hl,hn,hr=>by
  have h1:=Zv hk hb (l:=l) (by omega) (by show l.length≤1000;omega) hd t;cases hx:fW k B (wE l t) with
  |none=>
   rw[hx] at h1;refine⟨B,l,[],?_,.stop hx,hb,rfl,by simp⟩;show Gw k _ t l B.1 B.2.1 B.2.2.1 B.2.2.2 r=_;unfold Gw;rw[h1];simp only[ae,yWp,bO,ai,List.append_nil]
  |some x=>
   obtain⟨p,C⟩:=x;rw[hx] at h1;obtain⟨hp,hg⟩:=B9 hx;have Ed:=Gt hp;obtain⟨tS,nK⟩:=uM Ed;obtain⟨nT,dq⟩:=sU hk hb (by simp) hg;obtain⟨D,m,done,g1,g3,g4,g5,g6⟩:=yNm hk t n C (fq l p.1) (r++[p]) nT (List.Pairwise.sublist nK hd) (by omega) (by omega) (by grind);refine⟨D,m,p::done,?_,.step hx g3,g4,by grind,g6.trans nK⟩;show Gw k _ t l B.1 B.2.1 B.2.2.1 B.2.2.2 r=_;unfold Gw;rw[h1];simp[B5 (show l.length<k by omega) (show qT l by show l.length≤1000;omega),n9 (show r.length≤1000 by omega)];rw[List.append_cons r p done,←g1];rfl
theorem vYi {k}(hk:200≤k){B}(hb:qR B){l}(hd:qK l)(hl:l.length≤100) t:
  ∃(C:BT) (m done:List zH),QE k B.1 B.2.1 B.2.2.1 B.2.2.2 l t=some (C.1,C.2.1,C.2.2.1,C.2.2.2,m,done)∧hZ k t B l done C m∧qR C∧C.1.length=B.1.length∧List.Sublist m l:=by
 obtain⟨C,m,done,h1,h3⟩:=yNm (show 100<k by omega) t k B l [] hb hd hl (by omega) (by grind);refine⟨C,m,done,?_,h3⟩;unfold QE;simp_all
def qw (p q:zH):Bool:=decide (q.2.1=p.2.2.1)&&(decide (q.2.2.1=p.2.1)&& !decide (p.2.1≥q.2.1))
def px (k:Nat)(B:BT)(p:zH):List zH→Option (zH×BT)
 |[]=>none
 |q::l=>match(bif qw p q then iG k B [p,q] else none) with
  |some C=>some (q,C)
  |none=>px k B p l
def sV (k:Nat)(B:BT)(m:List zH):List zH→Option (zH×zH×BT)
 |[]=>none
 |p::l=>match px k B p m with
  |some (q,C)=>some (p,q,C)
  |none=>sV k B m l
theorem Zw {k B C p q}:∀{l},px k B p l=some (q,C)→q∈l∧qw p q=true∧iG k B [p,q]=some C
 |r::l,h=>by
  unfold px at h;cases hd:qw p r with
  |false=>
   rw[hd] at h;have:=Zw (l:=l) h;simp_all
  |true=>
   rw[hd] at h;cases hg:iG k B [p,r] with
   |some D=>
    simp_all
   |none=>
    rw[hg] at h;have:=Zw (l:=l) h;simp_all
theorem QF {k B C p q m}:∀{l},sV k B m l=some (p,q,C)→p∈l∧q∈m∧qw p q=true∧iG k B [p,q]=some C
 |r::l,h=>by
  unfold sV at h;cases hq:px k B r m with
  |some x=>
   rw[hq] at h;cases h;exact⟨by simp,Zw hq⟩
  |none=>
   rw[hq] at h;have:=QF (l:=l) h;simp_all
theorem vHw {α:Type}{l:List α}{i} h d:l.getD i d=l[i]:=by
 simp_all
theorem vAk k B p {m:List zH}{i}(hi:i<m.length):px k B p (m.drop i)=match(bif qw p (m.getD i pd) then iG k B [p,m.getD i pd] else none) with
  |some C=>some (m.getD i pd,C)
  |none=>px k B p (m.drop (i+1)):=by
 rw[List.drop_eq_getElem_cons hi,vHw hi];rfl
theorem yUj k B r {m:List zH}{i}(hi:i<m.length):sV k B r (m.drop i)=match px k B (m.getD i pd) r with
  |some (q,C)=>some (m.getD i pd,q,C)
  |none=>sV k B r (m.drop (i+1)):=by
 rw[List.drop_eq_getElem_cons hi,vHw hi];rfl
def fO (k:Nat)(B:BT)(l:List zH)(t:Int):Option (zH×zH×BT):=sV k B (wE l t) (wE l t)
theorem vVh {l x q}(hx:x<l.length)(h:q∈l)(bx:q≠l.getD x pd):q∈yK l x:=by
 unfold yK;have e:=Qn l x pd hx;grind
theorem qK.eq_of {l}(h:qK l){p q}(hp:p∈l)(hq:q∈l)(e:p.1=q.1):p=q:=by
 obtain⟨i,hi,ei⟩:=List.getElem_of_mem hp;obtain⟨j,hj,ej⟩:=List.getElem_of_mem hq;have hl:=List.pairwise_iff_getElem.1 h;grind
theorem Zx {l p q}(hp:p∈l)(hq:q∈l)(bx:q.1≠p.1):q∈fq l p.1:=by
 obtain⟨x,hx⟩:=Qo hp;unfold fq iF;rw[hx];have:=kQ hx;exact vVh this.1 hq (by grind)
def Ca (l:List zH)(p q:zH):List zH:=fq (fq l p.1) q.1
theorem Gx {k B C l t p q}(h:fO k B l t=some (p,q,C)):p∈l∧q∈l∧qw p q=true∧iG k B [p,q]=some C:=by
 obtain⟨h1,h2,h3⟩:=QF h;exact⟨Gt h1,Gt h2,h3⟩
theorem yKh {l}(hd:qK l){p q}(hp:p∈l)(hq:q∈l)(h:qw p q=true):q.1≠p.1:=by
 intro e;have:=hd.eq_of hq hp e;subst this;unfold qw at h;simp at h
theorem Gy {l}(hd:qK l){p q}(hp:p∈l)(hq:q∈l)(h:qw p q=true):(Ca l p q).length+2=l.length∧List.Sublist (Ca l p q) l:=by
 obtain⟨h1,h2⟩:=uM hp;obtain⟨h3,h4⟩:=uM (Zx hp hq (yKh hd hp hq h));unfold Ca;exact⟨by omega,h4.trans h2⟩
inductive jV (k:Nat) (t:Int):BT→List zH→List zH→BT→List zH→Prop
 |stop {B:BT} {l:List zH} (h:fO k B l t=none):jV k t B l [] B l
 |step {B C D:BT} {l m done:List zH} {p q:zH} (h:fO k B l t=some (p,q,C)) (h':jV k t C (Ca l p q) done D m):jV k t B l (p::q::done) D m
theorem jV.length {k t B C l done m}(h:jV k t B l done C m)(hd:qK l):done.length+m.length=l.length∧done.length%2=0:=by
 induction h with
 |stop _=>simp
 |step h _ ih=>
  obtain⟨hp,hq,py,_⟩:=Gx h;obtain⟨h1,h2⟩:=Gy hd hp hq py;have:=ih (List.Pairwise.sublist h2 hd);grind
theorem jV.sub {k t B C l done m}(h:jV k t B l done C m)(hd:qK l):List.Sublist m l:=by
 induction h with
 |stop _=>simp
 |step h _ ih=>
  obtain⟨hp,hq,py,_⟩:=Gx h;obtain⟨h1,h2⟩:=Gy hd hp hq py;exact(ih (List.Pairwise.sublist h2 hd)).trans h2
theorem yKp {k}(hk:100<k){B}(h:qR B)(m:List zH)(hm:m.length≤1000) p cQ cM:∀c i n,i+c=m.length→c<n→
  LP k n cQ cM m.length i B.1 B.2.1 B.2.2.1 B.2.2.2 0 0 0 0 0 0 0 0 0 0 0 0 0 0 m p.1 p.2.1 p.2.2.1 p.2.2.2.1 p.2.2.2.2.1 p.2.2.2.2.2.1 p.2.2.2.2.2.2 = some (match px k B p (m.drop i) with
   |some (q,C)=>.inr (true,p.1,p.2.1,p.2.2.1,p.2.2.2.1,p.2.2.2.2.1,p.2.2.2.2.2.1,p.2.2.2.2.2.2,q.1,q.2.1,q.2.2.1,q.2.2.2.1,q.2.2.2.2.1,q.2.2.2.2.2.1,q.2.2.2.2.2.2,C.1,C.2.1,C.2.2.1,C.2.2.2)
   |none=>.inl (cQ,cM,B.1,B.2.1,B.2.2.1,B.2.2.2,0,0,0,0,0,0,0,0,0,0,0,0,0,0,m))
 |0,i,n,e,hn=>by
  obtain⟨n,rfl⟩:∃x,n=x+1:=⟨n-1,by omega⟩;have:i=m.length:=by omega
  subst this;show Gz k _ cQ cM m.length m.length B.1 B.2.1 B.2.2.1 B.2.2.2 0 0 0 0 0 0 0 0 0 0 0 0 0 0 m p.1 p.2.1 p.2.2.1 p.2.2.2.1 p.2.2.2.2.1 p.2.2.2.2.2.1 p.2.2.2.2.2.2=_;unfold Gz;simp;rfl
 |c+1,i,n,e,hn=>by
  obtain⟨n,rfl⟩:∃x,n=x+1:=⟨n-1,by omega⟩;have hi:i<m.length:=by omega
  have ih:=yKp hk h m hm p cQ cM c (i+1) n (by omega) (by omega);show Gz k _ cQ cM m.length i B.1 B.2.1 B.2.2.1 B.2.2.2 0 0 0 0 0 0 0 0 0 0 0 0 0 0 m p.1 p.2.1 p.2.2.1 p.2.2.2.1 p.2.2.2.2.1 p.2.2.2.2.2.1 p.2.2.2.2.2.2=_;unfold Gz;obtain⟨r,h1,h2,h3⟩:=Gs hk h (l:=[p,m.getD i pd]) (by simp);have hf:=vCi hk h (l:=[p,m.getD i pd]) (by simp);have fg:qm k B.1 B.2.1 B.2.2.1 B.2.2.2 [(p.1,p.2.1,p.2.2.1,p.2.2.2.1,p.2.2.2.2.1,p.2.2.2.2.2.1,p.2.2.2.2.2.2),m.getD i (0,(0,(0,(0,(0,(0,0))))))]=some r:=h1;have eA:B1 k B.1 B.2.1 B.2.2.1 B.2.2.2 [(p.1,p.2.1,p.2.2.1,p.2.2.2.1,p.2.2.2.2.1,p.2.2.2.2.2.1,p.2.2.2.2.2.2),m.getD i (0,(0,(0,(0,(0,(0,0))))))]=some (xV B [p,m.getD i pd]):=hf;simp only[zY,qB hi (by grind),qS,ao,aa hi];rw[vAk k B p hi];unfold qw;cases decide ((m.getD i pd).2.1=p.2.2.1) with
  |false=>exact ih
  |true=>
   cases decide ((m.getD i pd).2.2.1=p.2.1) with
   |false=>exact ih
   |true=>
    cases decide (p.2.1≥(m.getD i pd).2.1) with
    |true=>exact ih
    |false=>
     unfold iG;grind
theorem vJa {k}(hk:100<k){B}(h:qR B)(m:List zH)(hm:m.length≤1000)(LQ:m.length<k):∀c i n,i+c=m.length→c<n→
  LR k n m.length i B.1 B.2.1 B.2.2.1 B.2.2.2 0 0 0 0 0 0 0 0 0 0 0 0 0 0 m = some (match sV k B m (m.drop i) with
   |some (p,q,C)=>.inr (true,p.1,p.2.1,p.2.2.1,p.2.2.2.1,p.2.2.2.2.1,p.2.2.2.2.2.1,p.2.2.2.2.2.2,q.1,q.2.1,q.2.2.1,q.2.2.2.1,q.2.2.2.2.1,q.2.2.2.2.2.1,q.2.2.2.2.2.2,C.1,C.2.1,C.2.2.1,C.2.2.2)
   |none=>.inl (0,0,0,0,0,0,0,0,0,0,0,0,0,0))
 |0,i,n,e,hn=>by
  obtain⟨n,rfl⟩:∃x,n=x+1:=⟨n-1,by omega⟩;have:i=m.length:=by omega
  subst this;show GA k _ m.length m.length B.1 B.2.1 B.2.2.1 B.2.2.2 0 0 0 0 0 0 0 0 0 0 0 0 0 0 m=_;unfold GA;simp;rfl
 |c+1,i,n,e,hn=>by
  obtain⟨n,rfl⟩:∃x,n=x+1:=⟨n-1,by omega⟩;have hi:i<m.length:=by omega
  have ih:=vJa hk h m hm LQ c (i+1) n (by omega) (by omega);show GA k _ m.length i B.1 B.2.1 B.2.2.1 B.2.2.2 0 0 0 0 0 0 0 0 0 0 0 0 0 0 m=_;unfold GA;have gz:=yKp hk h m hm (m.getD i pd) m.length i m.length 0 k (by omega) LQ;have e0:((0:Nat):Int)=0:=rfl;rw[e0,List.drop_zero] at gz;simp only[zY,qS,ao,aa hi];rw[gz];rw[yUj k B m hi];cases px k B (m.getD i (0,(0,(0,(0,(0,(0,0))))))) m with
  |none=>
   simp[qB hi (by grind)];exact ih
  |some x=>rfl
def Zy (x:Option (zH×zH×BT)):Int×Int×Int×Int×Int×Int×Int×Int×Int×Int×Int×Int×Int×Int×(List (Int×Int×Int))×EQ×AC×EQ×Bool:=match x with
 |some (p,q,C)=>(p.1,p.2.1,p.2.2.1,p.2.2.2.1,p.2.2.2.2.1,p.2.2.2.2.2.1,p.2.2.2.2.2.2,q.1,q.2.1,q.2.2.1,q.2.2.2.1,q.2.2.2.2.1,q.2.2.2.2.2.1,q.2.2.2.2.2.2,C.1,C.2.1,C.2.2.1,C.2.2.2,true)
 |none=>(0,0,0,0,0,0,0,0,0,0,0,0,0,0,[],[],[],[],false)
theorem vWf {k}(hk:100<k){B}(h:qR B){l}(bL:l.length<k)(hl:qT l)(hd:qK l) t:QG k B.1 B.2.1 B.2.2.1 B.2.2.2 l t=some (Zy (fO k B l t)):=by
 unfold QG fO;rw[yX3 bL hl hd];have Gv:=QC l t;unfold qT at hl;have:=vJa hk h (wE l t) (by omega) (by omega) (wE l t).length 0 k (by omega) (by omega);have e:((0:Nat):Int)=0:=rfl;rw[e,List.drop_zero] at this;simp;rw[this];cases sV k B (wE l t) (wE l t) with
 |none=>rfl
 |some x=>rfl
theorem vVr {k}(hk:3≤k) t (l:List zH)(hl:l.length≤1000)(uu:l.length<k)(C:BT)(r:List zH)(hr:r.length≤900)(p q:zH):
  xW k k t l 2 0 C.1 C.2.1 C.2.2.1 C.2.2.2 r [p,q]=some (t,Ca l p q,C.1,C.2.1,C.2.2.1,C.2.2.2,r++[p,q]):=by
 obtain⟨n,rfl⟩:∃n,k=n+3:=⟨k-3,by omega⟩;have h1:=B5 uu (show qT l from hl) p.1;have tS:(fq l p.1).length≤l.length:=by
  unfold fq iF;cases hp:vU l p.1 with
  |none=>simp
  |some x=>exact List.Sublist.length_le (uJ l x)
 have h2:=B5 (k:=n+3) (l:=fq l p.1) (by omega) (show(fq l p.1).length≤1000 by omega) q.1;have e1:zM (r.length+1) 56=true:=n9 (by omega);have e2:zM ((r++[p]).length+1) 56=true:=n9 (by grind);show xX (n+3) (xW (n+3) (n+2)) t l 2 0 C.1 C.2.1 C.2.2.1 C.2.2.2 r [p,q]=_;unfold xX;have g0:[p,q].getD (Int.toNat 0) (0,(0,(0,(0,(0,(0,0))))))=p:=rfl;have b0:zB 0 [p,q].length=true:=rfl;have d0:decide ((0:Int)<2)=true:=rfl;have w0:zA (0+1)=1:=by decide
 rw[d0,b0,g0,h1];simp[e1];show xX (n+3) (xW (n+3) (n+1)) t (fq l p.1) 2 1 C.1 C.2.1 C.2.2.1 C.2.2.2 (r++[p]) [p,q]=_;unfold xX;have g1:[p,q].getD (Int.toNat 1) (0,(0,(0,(0,(0,(0,0))))))=q:=rfl;have b1:zB 1 [p,q].length=true:=rfl;have d1:decide ((1:Int)<2)=true:=rfl;have w1:zA (1+1)=2:=by decide
 rw[d1,b1,g1,h2];simp only[e2];show xX (n+3) (xW (n+3) n) t (Ca l p q) 2 2 C.1 C.2.1 C.2.2.1 C.2.2.2 (r++[p]++[q]) [p,q]=_;unfold xX;simp
theorem yJr {k}(hk:100<k) t:∀n B (l r:List zH),qR B→qK l→l.length≤100→l.length<n→r.length+l.length≤900→
  ∃(C:BT) (m done:List zH),LS k n t l B.1 B.2.1 B.2.2.1 B.2.2.2 r=some (m,C.1,C.2.1,C.2.2.1,C.2.2.2,r++done)∧jV k t B l done C m∧qR C∧C.1.length=B.1.length∧List.Sublist m l
 |n+1,B,l,r,hb,hd,hl,hn,hr=>by
  have h1:=vWf hk hb (l:=l) (by omega) (by show l.length≤1000;omega) hd t;cases hx:fO k B l t with
  |none=>
   rw[hx] at h1;refine⟨B,l,[],?_,.stop hx,hb,rfl,by simp⟩;show GB k _ t l B.1 B.2.1 B.2.2.1 B.2.2.2 r=_;unfold GB;rw[h1];simp only[ae,Zy,bO,ai,List.append_nil]
  |some x=>
   obtain⟨p,q,C⟩:=x;obtain⟨hp,hq,py,hg⟩:=Gx hx;obtain⟨tS,nK⟩:=Gy hd hp hq py;obtain⟨nT,dq⟩:=sU hk hb (by simp) hg;obtain⟨D,m,done,g1,g3,g4,g5,g6⟩:=yJr hk t n C (Ca l p q) (r++[p,q]) nT (List.Pairwise.sublist nK hd) (by omega) (by omega) (by grind);refine⟨D,m,p::q::done,?_,.step hx g3,g4,by grind,g6.trans nK⟩;show GB k _ t l B.1 B.2.1 B.2.2.1 B.2.2.2 r=_;unfold GB;rw[h1];have hL:=vVr (k:=k) (by omega) t l (by omega) (by omega) C r (by omega) p q;simp only[Zy,ak];simp_all
theorem vOj {k}(hk:200≤k){B}(hb:qR B){l}(hd:qK l)(hl:l.length≤100) t:
  ∃(C:BT) (m done:List zH),QH k B.1 B.2.1 B.2.2.1 B.2.2.2 l t=some (C.1,C.2.1,C.2.2.1,C.2.2.2,m,done)∧jV k t B l done C m∧qR C∧C.1.length=B.1.length∧List.Sublist m l:=by
 obtain⟨C,m,done,h1,h3⟩:=yJr (show 100<k by omega) t k B l [] hb hd hl (by omega) (by grind);refine⟨C,m,done,?_,h3⟩;unfold QH;simp_all
def jT (l:List zH)(f:Int):Nat:=(l.filter (wX f)).length
def sW (l:List zH)(many:AC)(i:Nat):Bool:=
 (decide ((l.getD i pd).2.1≥0)&&decide ((l.getD i pd).2.1<(many.length:Int)))&&decide (((jT (l.take i) (l.getD i pd).2.1:Nat):Int)<many.getD (l.getD i pd).2.1.toNat 0)
def mZ (l:List zH)(many:AC):Nat→List zH
 |0=>[]
 |i+1=>mZ l many i++(bif sW l many i then[l.getD i pd] else[])
def vJ (l:List zH)(many:AC):List zH:=mZ l many l.length
theorem vH7 l many:∀N,N≤l.length→List.Sublist (mZ l many N) (l.take N)
 |0,_=>by simp[mZ]
 |N+1,h=>by
  rw[←fG l N pd h];apply List.Sublist.append (vH7 l many N (by omega));grind
theorem xY l many:List.Sublist (vJ l many) l:=by
 have:=vH7 l many l.length (by simp)
 rwa [List.take_length] at this
def uN (v w:AC):Prop:=v.length=w.length∧∀i,i<w.length→v.getD i 0≤w.getD i 0
def eS (B:BT)(l:List zH):AC:=uH B.1 B.2.1 B.2.2.1 B.2.2.2 l
def ft (s:AC)(m:AC):AC:=s.foldl (fun m i=>m.set i.toNat (m.getD i.toNat 0-1)) m
theorem uO:∀s m,(ft s m).length=m.length
 |[],_=>rfl
 |i::s,m=>by
  show(ft s (m.set i.toNat (m.getD i.toNat 0-1))).length=_;rw[uO s,List.length_set]
theorem vJc:∀(s:List Nat) m,s.Nodup→(∀i∈s,i<m.length)→∀j,(ft (s.map fun(x:Nat)=>(x:Int)) m).getD j 0=m.getD j 0-(if j∈s then 1 else 0)
 |[],m,_,_,j=>by simp[ft]
 |i::s,m,hs,hi,j=>by
  show(ft (s.map fun(x:Nat)=>(x:Int)) (m.set ((i:Int)).toNat (m.getD ((i:Int)).toNat 0-1))).getD j 0=_;rw[ao,vJc s _ (by grind) (by grind),fH];grind
def uP (B:BT)(l:List zH)(i:Nat):Bool:=hY B.1 B.2.1 B.2.2.1 B.2.2.2 l i
theorem yZw B l {m}(hm:m.length=B.1.length) j:(ft (eS B l) m).getD j 0=m.getD j 0-(if j<B.1.length∧uP B l j=true then 1 else 0):=by
 have:=vJc ((List.range B.1.length).filter fun i=>uP B l i) m (List.Nodup.sublist List.filter_sublist (by grind)) (by grind) j;unfold eS uH;rw[show(fun i=>hY B.1 B.2.1 B.2.2.1 B.2.2.2 l i)=fun i=>uP B l i from rfl,this];simp
theorem Zz {B l}:eS B l=[]↔∀j,j<B.1.length→uP B l j=false:=by
 unfold eS uH;rw[List.map_eq_nil_iff,List.filter_eq_nil_iff];constructor
 ·intro h j hj;have:=h j (by grind)
  simpa[uP] using this
 ·intro h i hi;have:=h i (by grind)
  simpa[uP] using this
theorem ySu {l many p}:∀{N},p∈mZ l many N→∃i,i<N∧l.getD i pd=p∧sW l many i=true
 |N+1,h=>by
  unfold mZ at h;rw[List.mem_append] at h;rcases h with h|h
  ·obtain⟨i,h1,h2⟩:=ySu h;grind
  grind
theorem vYm {B l}(hl:∀q∈l,yN B.1.length q){m j}(h:uP B (vJ l m) j=true):1≤m.getD j 0:=by
 unfold uP hY at h;rw[aR,Bool.not_eq_true'] at h;have hn:=vDu (n:=B.1.length) (l:=vJ l m) (fun q hq=>hl q ((xY l m).subset hq)) j;rw[h.1] at hn;obtain⟨x,hx,he⟩:=Qg.1 hn;obtain⟨i,h1,h2,h3⟩:=ySu (jY (d:=pd) hx);unfold sW at h3;have P8:(l.getD i pd)=(vJ l m).getD x pd:=h2;grind
inductive kS (B:BT) (l:List zH):AC→AC→Nat→Prop
 |stop {m:AC} (h:eS B (vJ l m)=[]):kS B l m m 0
 |step {m f:AC} {n:Nat} (h:eS B (vJ l m)≠[]) (h':kS B l (ft (eS B (vJ l m)) m) f n):kS B l m f (n+1)
theorem ZA {B l m}(hm:m.length=B.1.length):uN (ft (eS B l) m) m:=by
 refine⟨uO _ _,fun i hi=>?_⟩;rw[yZw B l hm];omega
theorem uN.trans {u v w}(h:uN u v)(h':uN v w):uN u w:=⟨h.1.trans h'.1,fun i hi=>Int.le_trans (h.2 i (by have:=h'.1;omega)) (h'.2 i hi)⟩
theorem uN.refl v:uN v v:=⟨rfl,by simp⟩
theorem kS.le {B l m f n}(h:kS B l m f n)(hm:m.length=B.1.length):uN f m:=by
 induction h with
 |stop _=>exact uN.refl _
 |step _ _ ih=>exact(ih ((uO _ _).trans hm)).trans (ZA hm)
theorem kS.final {B l m f n}(h:kS B l m f n):eS B (vJ l f)=[]:=by
 induction h with
 |stop h=>exact h
 |step _ _ ih=>exact ih
def pz (m:AC):Prop:=∀i,0≤m.getD i 0
theorem QI {B l}(hl:∀q∈l,yN B.1.length q){m}(hm:m.length=B.1.length)(h0:pz m):pz (ft (eS B (vJ l m)) m):=by
 intro i;rw[yZw B _ hm];have:=h0 i;split
 ·rename_i c;have:=vYm hl c.2;omega
 ·omega
theorem kS.nonneg {B l}(hl:∀q∈l,yN B.1.length q){m f n}(h:kS B l m f n)(hm:m.length=B.1.length)(h0:pz m):pz f:=by
 induction h with
 |stop _=>exact h0
 |step _ _ ih=>exact ih ((uO _ _).trans hm) (QI hl hm h0)
def nc (m:AC):Int:=zP (fun x=>x) m
theorem yOh:∀m i x,i<m.length→nc (m.set i x)=nc m-m.getD i 0+x
 |y::m,0,x,_=>by
  show x+nc m=y+nc m-y+x;omega
 |y::m,i+1,x,h=>by
  show y+nc (m.set i x)=y+nc m-m.getD i 0+x;rw[yOh m i x (by simp_all)];omega
theorem yWc:∀s m,(∀i∈s,0≤i∧i<(m.length:Int))→nc (ft s m)=nc m-s.length
 |[],m,_=>by simp[ft]
 |i::s,m,h=>by
  have hi:=h i (by simp);show nc (ft s (m.set i.toNat (m.getD i.toNat 0-1)))=_;rw[yWc s _ (by grind),yOh _ _ _ (by omega)];grind
theorem ZB {B l}:∀i∈eS B l,0≤i∧i<(B.1.length:Int):=by
 intro i hi;obtain⟨x,hx,rfl⟩:=List.mem_map.1 hi;simp_all
theorem vCw:∀{m},pz m→0≤nc m
 |[],_=>Int.le_refl 0
 |x::m,h=>by
  have h1:0≤x:=h 0;have h2:=vCw (m:=m) (fun i=>h (i+1));show 0≤x+nc m;omega
theorem yMk {B l}(hl:∀q∈l,yN B.1.length q):∀(N:Nat) m,m.length=B.1.length→pz m→nc m≤N→∃f n,kS B l m f n∧n≤N
 |N,m,hm,h0,hN=>by
  by_cases c:eS B (vJ l m)=[]
  ·exact⟨m,0,.stop c,by simp⟩
  ·have ht:=yWc (eS B (vJ l m)) m (by rw[hm];exact ZB);have hp:0<(eS B (vJ l m)).length:=by grind
   have h1:=QI hl hm h0;have h2:=vCw h1;obtain⟨N,rfl⟩:∃x,N=x+1:=⟨N-1,by omega⟩;obtain⟨f,n,h3,h4⟩:=yMk hl N _ ((uO _ _).trans hm) h1 (by omega);exact⟨f,n+1,.step c h3,by omega⟩
theorem ZC l many:∀N,(mZ l many N).length≤N
 |0=>Nat.le_refl _
 |N+1=>by
  unfold mZ;have:=ZC l many N;grind
theorem vTh (l:List zH) i (hi:i<l.length) f:jT (l.take (i+1)) f=jT (l.take i) f+(if(l.getD i pd).2.1=f then 1 else 0):=by
 unfold jT;rw[B2 _ _ _ pd hi,ay];unfold wX;grind
def ic (l:List zH)(n:Nat):AC:=(List.range n).map fun(i:Nat)=>((jT l i:Nat):Int)
theorem vBh l i:ic l (i+1)=ic l i++[((jT l i:Nat):Int)]:=by
 unfold ic;rw[List.range_succ,List.map_append];rfl
theorem xZ l n:(ic l n).length=n:=by
 unfold ic;simp
theorem LU:∀s m i,m.getD i 0-s.length≤(ft s m).getD i 0∧(ft s m).getD i 0≤m.getD i 0
 |[],m,i=>by simp[ft]
 |x::s,m,i=>by
  have h:=LU s (m.set x.toNat (m.getD x.toNat 0-1)) i;rw[fH] at h;have e:ft (x::s) m=ft s (m.set x.toNat (m.getD x.toNat 0-1)):=rfl;rw[e,List.length_cons];by_cases c:x.toNat=i∧x.toNat<m.length
  ·grind
  omega
theorem yPk (s m:AC) i (hi:i<s.length):ft (s.take (i+1)) m=(ft (s.take i) m).set (s.getD i 0).toNat ((ft (s.take i) m).getD (s.getD i 0).toNat 0-1):=by
 unfold ft;rw[←fG s i 0 hi,List.foldl_append];rfl
theorem vDf g:∀n,zP (fun x=>x) ((List.range n).map g)=qG g n
 |0=>rfl
 |n+1=>by
  rw[List.range_succ,List.map_append,kO,vDf g n];show qG g n+(g n+0)=qG g n+g n;omega
theorem vSd l f:((jT l f:Nat):Int)=zP (fun p:zH=>if p.2.1=f then 1 else 0) l:=by
 induction l with
 |nil=>rfl
 |cons p l ih=>
  unfold jT wX at*
  show _=(if p.2.1=f then(1:Int) else 0)+zP _ l;grind
theorem vPv l n:nc (ic l n)≤l.length:=by
 unfold nc ic;rw[vDf (fun i:Nat=>((jT l i:Nat):Int)) n,sH (h:=fun j=>zP (fun p:zH=>if p.2.1=(j:Int) then 1 else 0) l) (fun j _=>vSd l j),Pu];have := (BJ (A := 1) (l := l) (g := fun p : zH => qG (fun j => if p.2.1 = (j : Int) then 1 else 0) n) (fun p _=>by
  by_cases c:0≤p.2.1
  ·obtain⟨f,hf⟩:∃f:Nat,p.2.1=f:=⟨p.2.1.toNat,by omega⟩;have e:qG (fun j=>if p.2.1=(j:Int) then(1:Int) else 0) n=qG (fun j=>if j=f then 1 else 0) n:=by grind
   rw[e,BK];omega
  ·have e:qG (fun j=>if p.2.1=(j:Int) then(1:Int) else 0) n=qG (fun _=>0) n:=by grind
   rw[e,XQ];omega)).2
 omega
theorem yV9 l n i:(ic l n).getD i 0=if i<n then((jT l i:Nat):Int) else 0:=by
 unfold ic;grind
theorem ZD l f:jT l f≤l.length:=List.length_filter_le _ _
theorem QJ {l}(hl:l.length≤1000) n:pz (ic l n)∧∀i,(ic l n).getD i 0≤1000:=by
 refine⟨fun i=>?_,fun i=>?_⟩
 ·rw[yV9];omega
 ·rw[yV9];have:=ZD l i;omega
theorem LV {B:BT}{l}(hl:∀q∈l,yN B.1.length q)(bQ:l.length≤64) m:wH B.1.length (vJ l m):=
 ⟨fun p hp=>hl p ((xY l m).subset hp),by have:=(xY l m).length_le;omega⟩
def vA (l:List zH)(t:Int):List zH:=l.filter (kg t)
theorem LW {n l t}(h:∀q∈l,yN n q):∀q∈vA l t,yN n q:=fun q hq=>h q (List.mem_filter.1 hq).1
theorem ya l t:(vA l t).length≤l.length:=List.length_filter_le _ _
theorem ZE {B}(hb:qR B){l}(hl:∀q∈l,yN B.1.length q)(bQ:l.length≤64) t:
  ∃f n,kS B (vA l t) (ic (vA l t) B.1.length) f n∧n≤(vA l t).length:=by
 have h1:=QJ (l:=vA l t) (by have:=ya l t;omega) B.1.length;have h2:=vPv (vA l t) B.1.length;exact yMk (LW hl) (vA l t).length _ (xZ _ _) h1.1 (by omega)
def pA (l:List zH)(hs:List zH):List zH:=hs.foldl (fun l p=>fq l p.1) l
theorem vUl l id:(fq l id).length≤l.length∧List.Sublist (fq l id) l:=by
 unfold fq iF;cases vU l id with
 |none=>simp
 |some x=>exact⟨(uJ l x).length_le,uJ l x⟩
theorem QK:∀hs l,(pA l hs).length≤l.length∧List.Sublist (pA l hs) l
 |[],l=>⟨Nat.le_refl _,List.Sublist.refl _⟩
 |p::hs,l=>by
  obtain⟨h1,h2⟩:=QK hs (fq l p.1);obtain⟨h3,h4⟩:=vUl l p.1;exact⟨Nat.le_trans h1 h3,h2.trans h4⟩
theorem yHp (l hs:List zH) i (hi:i<hs.length):pA l (hs.take (i+1))=fq (pA l (hs.take i)) (hs.getD i pd).1:=by
 unfold pA;rw[←fG hs i pd hi,List.foldl_append];rfl
def GC (B:BT)(l hs:List zH)(r:List qY×EQ×AC×EQ×Int):(List (Int×Int×Int))×EQ×AC×EQ×(List zH)×(List zH):=
 bif !(decide (r.2.2.2.2=0)) then(B.1,B.2.1,B.2.2.1,B.2.2.2,l,[]) else(r.1,r.2.1,r.2.2.1,r.2.2.2.1,pA l hs,hs)
theorem ZF {k:Nat}{l:List zH}(hk:l.length<k)(hl:qT l){many:AC}(h0:pz many)(hm:∀i,many.getD i 0≤1000)(Gv:many.length≤1000):GD k l many=some (vJ l many):=by
 unfold qT at hl;unfold GD ZG ZH;rw[qE (by omega) (by omega)];simp only[ai,ae];obtain ⟨s', h1, h2, h3, h4⟩ := yZ (L := fun n i (s : AC × List zH) => GG k n l l.length i s.1 s.2) (N := l.length) (fun s => s) (fun i s => s.1.length = many.length ∧ (∀ f : Nat, f < many.length → s.1.getD f 0 = if many.getD f 0 ≤ (jT (l.take i) f : Nat) then 0 else many.getD f 0 - (jT (l.take i) f : Nat)) ∧ s.2 = mZ l many i) (fun n s _=>by
  show GH k _ l l.length l.length s.1 s.2=_;unfold GH;simp only [qS, ab (Nat.lt_irrefl _), ak]) (fun n i s hi hs=>by
  obtain⟨s1,s2,s3⟩:=hs;have dz:s.2.length≤i:=by rw[s3];exact ZC l many i
  show∃s',GH k _ l l.length i s.1 s.2=_∧_;unfold GH ZI;simp only[zY,qB hi (show l.length<9223372036854775808 by omega),qS,ao,aa hi,ai,n9 (show s.2.length≤1000 by omega)];have nP:=fun f=>vTh l i hi f
  have J5:∀f:Nat,f<many.length→(l.getD i pd).2.1≠(f:Int)→(if many.getD f 0≤(jT (l.take (i+1)) f:Nat) then(0:Int) else many.getD f 0-(jT (l.take (i+1)) f:Nat))=if many.getD f 0≤(jT (l.take i) f:Nat) then 0 else many.getD f 0-(jT (l.take i) f:Nat):=by
   intro f hf bx;rw[nP f,if_neg bx,Nat.add_zero]
  have skip:sW l many i=false→(∀f:Nat,f<many.length→(l.getD i pd).2.1=(f:Int)→many.getD f 0≤(jT (l.take i) f:Nat))→(s.1.length=many.length∧(∀f:Nat,f<many.length→s.1.getD f 0=if many.getD f 0≤(jT (l.take (i+1)) f:Nat) then 0 else many.getD f 0-(jT (l.take (i+1)) f:Nat))∧s.2=mZ l many (i+1)):=by
   intro hh hz;refine⟨s1,fun f hf=>?_,?_⟩
   ·by_cases c:(l.getD i pd).2.1=(f:Int)
    ·have:=hz f hf c;rw[s2 f hf,if_pos this,nP f,if_pos c,if_pos (by omega)]
    ·rw[J5 f hf c,s2 f hf]
   ·show _=mZ l many i++_;rw[hh,s3];simp
  cases e1:decide ((l.getD i pd).2.1<0) with
  |true=>
   refine⟨s,rfl,skip ?_ ?_⟩
   ·unfold sW;rw[aZ] at e1;rw[ab (show¬(l.getD i pd).2.1≥0 by omega)];rfl
   ·intro f hf c;rw[aZ] at e1;omega
  |false=>
   cases e2:decide ((l.getD i pd).2.1≥((s.1.length:Nat):Int)) with
   |true=>
    refine⟨s,rfl,skip ?_ ?_⟩
    ·unfold sW;rw[aZ] at e2;rw[ab (show¬(l.getD i pd).2.1<(many.length:Int) by omega),Bool.and_false];rfl
    ·intro f hf c;rw[aZ] at e2;omega
   |false=>
    rw[decide_eq_false_iff_not] at e1 e2;obtain⟨f,hf⟩:∃f:Nat,(l.getD i pd).2.1=f:=⟨(l.getD i pd).2.1.toNat,by omega⟩;have OH:f<many.length:=by omega
    have eA:(l.getD i (0,(0,(0,(0,(0,(0,0))))))).2.1=f:=hf;simp only[ak,eA,zY,ao,s1,aa OH,ai];have Bf:sW l many i=decide (((jT (l.take i) f:Nat):Int)<many.getD f 0):=by
     unfold sW;rw[hf,aa (show(f:Int)≥0 by omega),aa (show(f:Int)<(many.length:Int) by omega),ao];rfl
    have iP:=s2 f OH;cases e3:decide (s.1.getD f 0<1) with
    |true=>
     rw[aZ,iP] at e3;have hle:many.getD f 0≤(jT (l.take i) f:Nat):=by
      by_cases c:many.getD f 0≤(jT (l.take i) f:Nat)
      ·exact c
      ·rw[if_neg c] at e3;omega
     refine⟨s,rfl,skip (by rw[Bf];exact ab (by omega)) ?_⟩;intro g hg c;have:g=f:=by omega
     subst this;exact hle
    |false=>
     rw[decide_eq_false_iff_not] at e3;have hgt:¬many.getD f 0≤(jT (l.take i) f:Nat):=by
      intro c;rw[iP,if_pos c] at e3;omega
     rw[if_neg hgt] at iP;have pc:=hm f;have hw:zA (s.1.getD f 0-1)=s.1.getD f 0-1:=zO (by omega) (by omega);refine⟨(s.1.set f (s.1.getD f 0-1),s.2++[l.getD i pd]),?_,?_,?_,?_⟩
     ·simp only[ak,ae,ai,hw]
     ·rw[List.length_set];exact s1
     ·intro g hg;rw[fH];by_cases c:f=g
      ·subst c;rw[if_pos ⟨rfl,by omega⟩,nP f,if_pos hf,iP];by_cases d:many.getD f 0≤((jT (l.take i) f+1:Nat):Int)
       ·rw[if_pos d];omega
       ·rw[if_neg d];omega
      ·rw[if_neg (fun e=>c e.1),J5 g hg (by omega)];exact s2 g hg
     ·show s.2++[l.getD i pd]=mZ l many i++_;rw[Bf,aa (by omega),s3];rfl) (s:=(many,[])) hk ⟨rfl,fun f hf=>by
   have:(jT (l.take 0) f:Nat)=0:=rfl;have h0f:=h0 f;rw[this];by_cases c:many.getD f 0≤((0:Nat):Int)
   ·rw[if_pos c];show many.getD f 0=0;omega
   ·rw[if_neg c];show many.getD f 0=_;omega,rfl⟩
 have fg:GG k k l l.length 0 many []=some s':=h1;rw[fg];simp only[ae,h4];rfl
theorem yJh {k l}(hk:l.length<k)(hl:qT l) f:LX k l f=some (l.filter (wX f)):=by
 unfold LX ZJ;have := Lp pd (L := fun n i s => LY k n l l.length i f s) (wX f) id (fun n s=>by
  show GI k _ l l.length l.length f s=_;unfold GI;simp) (fun n i s hi hs=>by
  show GI k _ l l.length i f s=_;unfold GI ZK;unfold qT at hl;simp[zY,qB hi (by grind),n9 (show s.length≤1000 by omega)];unfold wX;grind) hk
 simp_all
theorem ZL {k}{B:BT}{l}(hk:l.length<k)(hl:qT l)(hn:B.1.length<k)(ZM:B.1.length≤1000) s7:
  Cb k k s7 B.1.length 0 B.1 B.2.1 B.2.2.1 B.2.2.2 [] l=some (s7,B.1,B.2.1,B.2.2.1,B.2.2.2,ic l B.1.length,l):=by
 obtain ⟨s', h1, h2⟩ := yZ (L := fun n i (s : AC) => Cb k n s7 B.1.length i B.1 B.2.1 B.2.2.1 B.2.2.2 s l) (N := B.1.length) (fun s => (s7, B.1, B.2.1, B.2.2.1, B.2.2.2, s, l)) (fun i s => s = ic l i) (fun n s _=>by
  show GJ k _ s7 B.1.length B.1.length B.1 B.2.1 B.2.2.1 B.2.2.2 s l=_;unfold GJ;simp) (fun n i s hi hs=>by
  refine⟨_,?_,(vBh l i).symm⟩;show GJ k _ s7 B.1.length i B.1 B.2.1 B.2.2.1 B.2.2.2 s l=_;unfold GJ;have hr:zM (s.length+1) 8=true:=by rw[hs,xZ];exact qE (by omega) (by omega)
  simp[aa hi,yJh hk hl,hr,qB hi (by grind)];rw[hs];rfl) (s:=[]) hn rfl
 simp_all
theorem vTi {k}{B:BT}{l:List zH}{s m}(hk:s.length<k)(hs:s.length≤1000)(gz:∀x∈s,0≤x∧x<(m.length:Int))(h0:pz m)(hm:∀i,m.getD i 0≤1000) s7:
  GK k k s7 s.length 0 B.1 B.2.1 B.2.2.1 B.2.2.2 m l s=some (s7,B.1,B.2.1,B.2.2.1,B.2.2.2,ft s m,l):=by
 obtain ⟨s', h1, h2⟩ := yZ (L := fun n i (r : AC) => GK k n s7 s.length i B.1 B.2.1 B.2.2.1 B.2.2.2 r l s) (N := s.length) (fun r => (s7, B.1, B.2.1, B.2.2.1, B.2.2.2, r, l)) (fun i r => r = ft (s.take i) m) (fun n r _=>by
  show GL k _ s7 s.length s.length B.1 B.2.1 B.2.2.1 B.2.2.2 r l s=_;unfold GL;simp) (fun n i r hi hr=>by
  refine⟨_,?_,(yPk s m i hi).symm⟩;show GL k _ s7 s.length i B.1 B.2.1 B.2.2.1 B.2.2.2 r l s=_;unfold GL;obtain⟨b1,b2⟩:=gz _ (jY (d:=0) hi);have rW:r.length=m.length:=by rw[hr,uO]
  have hb:zB (s.getD i 0) r.length=true:=wU b1 (by omega);have XJ:=LU (s.take i) m (s.getD i 0).toNat;have ud:=h0 (s.getD i 0).toNat;have pc:=hm (s.getD i 0).toNat;have bd:(s.take i).length≤s.length:=by grind
  have hw:zA (r.getD (s.getD i 0).toNat 0-1)=r.getD (s.getD i 0).toNat 0-1:=by
   rw[hr];exact zO (by omega) (by omega)
  simp only[qS,zY,ao,aa hi,ai,hb,hw,qB hi (by grind)];rw[hr]) (s:=m) hk rfl
 simp_all
theorem vU1 {k}(hk:100<k){B}(hb:qR B){l}(hl:∀q∈l,yN B.1.length q)(bQ:l.length≤64){m f n}(h:kS B l m f n):
  ∀N (s7:Int),m.length=B.1.length→pz m→(∀i,m.getD i 0≤1000)→n<N→0≤s7→s7+n<1000000→
  LZ k N s7 B.1 B.2.1 B.2.2.1 B.2.2.2 m l=some (s7+n+1,f):=by
 induction h with
 |@stop m h=>
  intro N s7 hm h0 h1 hn hs pU;obtain⟨N,rfl⟩:∃x,N=x+1:=⟨N-1,by omega⟩;have ie:=hb.n6;show GM k _ s7 B.1 B.2.1 B.2.2.1 B.2.2.2 m l=_;unfold GM;have hS:=YP hk hb (LV hl bQ m);have oR:BZ k B.1 B.2.1 B.2.2.1 B.2.2.2 (vJ l m)=some (eS B (vJ l m)):=hS;rw[ZF (by omega) (show qT l by show l.length≤1000;omega) h0 h1 (by omega)];simp[ae];rw[oR,h];have w:zA (s7+1)=s7+1:=zO (by omega) (by omega);rw[w];simp
 |@step m f n h h' ih=>
  intro N s7 hm h0 h1 hn hs pU;obtain⟨N,rfl⟩:∃x,N=x+1:=⟨N-1,by omega⟩;have ie:=hb.n6;show GM k _ s7 B.1 B.2.1 B.2.2.1 B.2.2.2 m l=_;unfold GM;have hS:=YP hk hb (LV hl bQ m);have oR:BZ k B.1 B.2.1 B.2.2.1 B.2.2.2 (vJ l m)=some (eS B (vJ l m)):=hS;rw[ZF (by omega) (show qT l by show l.length≤1000;omega) h0 h1 (by omega)];simp only[ae];rw[oR];simp only[ae];have w:zA (s7+1)=s7+1:=zO (by omega) (by omega);have bx : decide ((((eS B (vJ l m)).length : Nat) : Int) = 0) = false := ab (by
   simp_all)
  have dz:(eS B (vJ l m)).length≤B.1.length:=by
   unfold eS uH;grind
  rw[bx,w];rw[vTi (by omega) (by omega) (by rw[hm];exact ZB) h0 h1];simp;have ZN:=QI hl hm h0;have:=ih N (s7+1) ((uO _ _).trans hm) ZN (fun i=>by have:=(LU (eS B (vJ l m)) m i).2;have:=h1 i;omega) (by omega) (by omega) (by omega);rw[this]
  congr 2
  omega
theorem ZO {k}(hk:100<k){B}(hb:qR B){l}(hl:∀q∈l,yN B.1.length q)(bQ:l.length≤64) t {f n}(hn:n≤l.length)(h:kS B (vA l t) (ic (vA l t) B.1.length) f n):
  QL k B.1 B.2.1 B.2.2.1 B.2.2.2 l t=some (f,((n+1:Nat):Int)):=by
 have ie:=hb.n6;have hr:=ya l t;have h1:=QJ (l:=vA l t) (by omega) B.1.length;unfold QL;rw[YT (by omega) (by show l.length≤1000;omega)];simp;have e:Cb k k 0 B.1.length 0 B.1 B.2.1 B.2.2.1 B.2.2.2 [] (l.filter (kg t))=_:=ZL (k:=k) (B:=B) (l:=vA l t) (by omega) (by show(vA l t).length≤1000;omega) (by omega) (by omega) 0;rw[e];simp;rw[vU1 hk hb (LW hl) (by omega) h k 0 (xZ _ _) h1.1 h1.2 (by omega) (by omega) (by omega)];simp
theorem ZP {k}{C:BT}{l hs:List zH}(hl:l.length<k)(dO:l.length≤1000)(hk:hs.length<k)(hh:hs.length≤1000):
  Cc k k l hs.length 0 C.1 C.2.1 C.2.2.1 C.2.2.2 hs=some (pA l hs,C.1,C.2.1,C.2.2.1,C.2.2.2,hs):=by
 obtain ⟨s', h1, h2⟩ := yZ (L := fun n i (s : List zH) => Cc k n s hs.length i C.1 C.2.1 C.2.2.1 C.2.2.2 hs) (N := hs.length) (fun s => (s, C.1, C.2.1, C.2.2.1, C.2.2.2, hs)) (fun i s => s = pA l (hs.take i)) (fun n s _=>by
  show GN k _ s hs.length hs.length C.1 C.2.1 C.2.2.1 C.2.2.2 hs=_;unfold GN;simp) (fun n i s hi hr=>by
  refine⟨_,?_,(yHp l hs i hi).symm⟩;show GN k _ s hs.length i C.1 C.2.1 C.2.2.1 C.2.2.2 hs=_;unfold GN;have dz:=(QK (hs.take i) l).1;rw[←hr] at dz⊢;simp[zY,aa hi,B5 (show s.length<k by omega) (show qT s by show s.length≤1000;omega),qB hi (by grind)];rfl) (s:=l) hk rfl
 simp_all
theorem ZQ {k:Nat}(hk:100<k){B:BT}(hb:qR B){l:List zH}(hl:∀q∈l,yN B.1.length q)(bQ:l.length≤64)(t:Int){f:AC}{n:Nat}(hn:n≤l.length)(h:kS B (vA l t) (ic (vA l t) B.1.length) f n)
  {r:List qY×EQ×AC×EQ×Int} (hr:qm k B.1 B.2.1 B.2.2.1 B.2.2.2 (vJ (vA l t) f)=some r):Cd k B.1 B.2.1 B.2.2.1 B.2.2.2 l t=some (GC B l (vJ (vA l t) f) r):=by
 have ie:=hb.n6;have rW:=ya l t;have h1:=QJ (l:=vA l t) (by omega) B.1.length;have hle:=h.le (xZ _ _);have h0:=h.nonneg (LW hl) (xZ _ _) h1.1;have OH:f.length=B.1.length:=hle.1.trans (xZ _ _);have hf:∀i,f.getD i 0≤1000:=fun i=>by
  by_cases c:i<(ic (vA l t) B.1.length).length
  ·have:=hle.2 i c;have:=h1.2 i;omega
  ·rw[bY,List.getElem?_eq_none (by have:=hle.1;omega)];show(0:Int)≤1000;omega
 have QM:=(xY (vA l t) f).length_le;unfold Cd;rw[ZO hk hb hl bQ t hn h,YT (by omega) (by show l.length≤1000;omega)];simp only[ae];have e:GD k (l.filter (kg t)) f=_:=ZF (k:=k) (l:=vA l t) (by omega) (by show(vA l t).length≤1000;omega) h0 hf (by omega);rw[e];simp only[ae];rw[hr];simp only[ae];unfold GC;cases decide (r.2.2.2.2=0) with
 |false=>rfl
 |true=>
  simp only[az,ak];have e2:Cc k k l ((List.length (vJ (vA l t) f):Nat):Int) 0 r.1 r.2.1 r.2.2.1 r.2.2.2.1 (vJ (vA l t) f)=_:=ZP (C:=(r.1,r.2.1,r.2.2.1,r.2.2.2.1)) (by omega) (by omega) (by omega) (by omega);rw[e2];rfl
theorem vZl {l x}(hx:x<l.length):List.Perm (l.getD x pd::yK l x) l:=by
 unfold yK;have h:List.Perm (l.getD x pd::(l.take x++l.drop (x+1))) (l.take x++l.getD x pd::l.drop (x+1)):=by grind
 simp_all
theorem QN {l}(hd:qK l){p}(hp:p∈l):List.Perm (p::fq l p.1) l:=by
 obtain⟨x,hx⟩:=Qo hp;have h:=kQ hx;have e:l.getD x pd=p:=hd.eq_of (by grind) hp h.2;unfold fq iF;have:=vZl h.1;simp_all
theorem hZ.perm {k t B C l done m}(h:hZ k t B l done C m)(hd:qK l):List.Perm (done++m) l:=by
 induction h with
 |stop _=>rfl
 |step h _ ih=>
  have hp:=Gt (B9 h).1;exact((ih (List.Pairwise.sublist (uM hp).2 hd)).cons _).trans (QN hd hp)
theorem jV.perm {k t B C l done m}(h:jV k t B l done C m)(hd:qK l):List.Perm (done++m) l:=by
 induction h with
 |stop _=>rfl
 |step h _ ih=>
  obtain⟨hp,hq,py,_⟩:=Gx h;obtain⟨h1,h2⟩:=Gy hd hp hq py;have xf:qK (fq _ _):=List.Pairwise.sublist (uM hp).2 hd;have pw:=Zx hp hq (yKh hd hp hq py);exact(((ih (List.Pairwise.sublist h2 hd)).cons _).cons _).trans (((QN xf pw).cons _).trans (QN hd hp))
theorem hZ.final {k t B C l done m}(h:hZ k t B l done C m):fW k C (wE m t)=none:=by
 induction h with
 |stop h=>exact h
 |step _ _ ih=>exact ih
theorem jV.final {k t B C l done m}(h:jV k t B l done C m):fO k C m t=none:=by
 induction h with
 |stop h=>exact h
 |step _ _ ih=>exact ih
theorem qK.perm {l m}(h:qK l)(hp:List.Perm m l):qK m:=(List.Perm.pairwise_iff (R:=fun p q:zH=>p.1≠q.1) (by grind) hp.symm).1 h
inductive mr (k:Nat) (t:Int):BT→List zH→List zH→BT→List zH→Prop
 |stop {B C:BT} {l m d:List zH} (h1:hZ k t B l d C m) (h2:fO k C m t=none):mr k t B l d C m
 |step {B C D E:BT} {l m n o d e f:List zH} (h1:hZ k t B l d C m) (h2:jV k t C m e D n) (ne:e≠[]) (h':mr k t D n f E o):mr k t B l (d++e++f) E o
theorem mr.perm {k t B C l done m}(h:mr k t B l done C m)(hd:qK l):List.Perm (done++m) l:=by
 induction h with
 |stop h1 _=>exact h1.perm hd
 |@step B C D E l m n o d e f h1 h2 ne h' ih=>
  have p1:=h1.perm hd;have hd1:=hd.perm p1;have hm:qK m:=(List.pairwise_append.1 hd1).2.1;have p2:=h2.perm hm;have hn:qK n:=(List.pairwise_append.1 (hm.perm p2)).2.1;grind
theorem mr.final {k t B C l done m}(h:mr k t B l done C m):fW k C (wE m t)=none∧fO k C m t=none:=by
 induction h with
 |stop h1 h2=>exact⟨h1.final,h2⟩
 |step _ _ _ _ ih=>exact ih
theorem hZ.none {k t B C l done m}(h:hZ k t B l done C m)(hn:fW k B (wE l t)=none):done=[]∧C=B∧m=l:=by
 cases h with
 |stop _=>simp
 |step h _=>simp_all
theorem jV.none {k t B C l done m}(h:jV k t B l done C m)(hn:fO k B l t=none):done=[]∧C=B∧m=l:=by
 cases h with
 |stop _=>simp
 |step h _=>simp_all
theorem jV.nil {k t B C l m}(h:jV k t B l [] C m):fO k B l t=Option.none∧C=B∧m=l:=by
 cases h with
 |stop h=>simp_all
theorem mr.none {k t B C l done m}(h:mr k t B l done C m)(h1:fW k B (wE l t)=Option.none)(h2:fO k B l t=Option.none):done=[]∧C=B∧m=l:=by
 cases h with
 |stop g1 _=>exact g1.none h1
 |step g1 g2 ne _=>
  obtain⟨rfl,rfl,rfl⟩:=g1.none h1;obtain⟨rfl,_,_⟩:=g2.none h2;simp_all
theorem yWm {k:Nat}(hk:200≤k)(t:Int):∀(n:Nat) (B:BT) (l r:List zH),qR B→qK l→l.length≤100→l.length<n→r.length+l.length≤900→
  ∃(C:BT) (m done:List zH),L4 k n t l B.1 B.2.1 B.2.2.1 B.2.2.2 r=some (m,C.1,C.2.1,C.2.2.1,C.2.2.2,r++done)∧mr k t B l done C m∧qR C∧C.1.length=B.1.length∧List.Sublist m l
 |0,_,_,_,_,_,_,h,_=>absurd h (Nat.not_lt_zero _)
 |n+1,B,l,r,hb,hd,hl,hn,hr=>by
  obtain⟨C,m,d,f1,f2,f3,f4,f5⟩:=vYi hk hb hd hl t;have p1:=f2.perm hd;have l1:=p1.length_eq;rw[ay] at l1;have hm:qK m:=List.Pairwise.sublist f5 hd;obtain⟨D,o,e,g1,g2,g3,g4,g5⟩:=vOj hk f3 hm (by omega) t;have p2:=g2.perm hm;have l2:=p2.length_eq;rw[ay] at l2;have r1:zM (r.length+d.length) 56=true:=qE (by omega) (by omega);have r2:zM ((r++d).length+e.length) 56=true:=qE (by rw[ay];omega) (by grind);show∃C' m' agR,QO k _ t l B.1 B.2.1 B.2.2.1 B.2.2.2 r=_∧_;unfold QO;rw[f1];simp only[ae];rw[g1];simp only[ae,r1,r2,ai];cases e with
  |nil=>
   obtain⟨h1,h2,h3⟩:=g2.nil;subst h2;subst h3;refine⟨D,o,d,?_,.stop f2 h1,f3,f4,f5⟩;simp
  |cons p e=>
   have bd:o.length+(e.length+1)=m.length:=by simp at l2;omega
   obtain⟨E,q,f,k1,k2,k3,k4,k5⟩:=yWm hk t n D o (r++d++(p::e)) g3 (List.Pairwise.sublist g5 hm) (by omega) (by omega) (by simp;omega);refine⟨E,q,d++(p::e)++f,?_,.step f2 g2 (by simp) k2,k3,k4.trans (g4.trans f4),k5.trans (g5.trans f5)⟩;grind
theorem GO {k}(hk:200≤k){B}(hb:qR B){l}(hd:qK l)(hl:l.length≤100) t:
  ∃(C:BT) (m done:List zH),L5 k B.1 B.2.1 B.2.2.1 B.2.2.2 l t=some (C.1,C.2.1,C.2.2.1,C.2.2.2,m,done)∧mr k t B l done C m∧qR C∧C.1.length=B.1.length∧List.Sublist m l:=by
 obtain⟨C,m,done,h1,h3⟩:=yWm hk t k B l [] hb hd hl (by omega) (by grind);refine⟨C,m,done,?_,h3⟩;unfold L5;simp_all
theorem vC3:∀hs l,qK l→qK hs→(∀q∈hs,q∈l)→List.Perm (hs++pA l hs) l
 |[],l,_,_,_=>List.Perm.refl _
 |p::hs,l,hd,hh,gz=>by
  have hp:=gz p (by simp);obtain⟨h1,h2⟩:=uM hp;have hc:=List.pairwise_cons.1 hh;have:=vC3 hs (fq l p.1) (List.Pairwise.sublist h2 hd) hc.2 (fun q hq=>Zx hp (by grind) (by grind));exact(this.cons p).trans (QN hd hp)
theorem vZc {k}(hk:100<k){B}(hb:qR B):qm k B.1 B.2.1 B.2.2.1 B.2.2.2 []=some (B.1,B.2.1,B.2.2.1,B.2.2.2,0):=by
  obtain⟨r,h1,h3⟩:=P5 hk hb (l:=[]) (by simp);have aT:wH B.1.length []:=⟨by simp,by simp⟩;obtain⟨a',p',h4,h5⟩:=h3.1 aT;have an:uD B.1.length B.1 B.2.2.2 [] B.1 B.2.2.2:={
    al:=rfl
    acct:=fun i hi=>by
      have hr:0≤(B.1.getD i ad).2.2:=by
        have:=hb.nums.res i hi;omega
      show B.1.getD i ad=((B.1.getD i ad).1+0,(B.1.getD i ad).2.1,jE (B.1.getD i ad).2.2 0);have e:jE (B.1.getD i ad).2.2 0=(B.1.getD i ad).2.2:=by
        unfold jE;omega
      simp_all
    pl:=hb.pl
    pr:=hb.pr
    cell:=fun i hi j hj=>by show _=_+0-0;omega}
  obtain⟨e1,e2⟩:=h4.same an;subst e1;subst e2;rw[Fh.2 hb] at h5;simp_all
theorem ZR {k:Nat}(hk:200≤k){B:BT}(hb:qR B){l:List zH}(hd:qK l)(hl:∀q∈l,yN B.1.length q)(bQ:l.length≤64)(t:Int):
  ∃(C:BT) (m done:List zH),Cd k B.1 B.2.1 B.2.2.1 B.2.2.2 l t=some (C.1,C.2.1,C.2.2.1,C.2.2.2,m,done)∧qR C∧C.1.length=B.1.length∧List.Sublist m l∧List.Perm (done++m) l∧(done=[]→C=B∧m=l):=by
 obtain⟨f,n,h,hn⟩:=ZE hb hl bQ t;have rW:=ya l t;have cP:=xY (vA l t) f;have QM:=cP.length_le;obtain⟨r,h1,h2,h3⟩:=Gs (k:=k) (by omega) hb (l:=vJ (vA l t) f) (by omega);have hs:=QB hb h3;have g1:=ZQ (k:=k) (by omega) hb hl bQ t (by omega) h h1;unfold GC at g1;cases c:decide (r.2.2.2.2=0) with
 |false=>
  rw[c] at g1;exact⟨B,l,[],g1,hb,rfl,List.Sublist.refl _,List.Perm.refl _,fun _=>⟨rfl,rfl⟩⟩
 |true=>
  rw[c] at g1;have dz:List.Sublist (vJ (vA l t) f) l:=cP.trans List.filter_sublist;have hal:r.1.length=B.1.length:=by
   by_cases c':wH B.1.length (vJ (vA l t) f)
   ·obtain⟨a',p',x,e⟩:=h3.1 c';cases hi:kP a' B.2.1 B.2.2.1 p' with
    |false=>rw[hi] at e;subst e;rfl
    |true=>rw[hi] at e;subst e;exact x.al
   ·rw[h3.2 c']
  refine⟨(r.1,r.2.1,r.2.2.1,r.2.2.2.1),pA l (vJ (vA l t) f),vJ (vA l t) f,g1,hs.2.1,hal,(QK _ _).2,vC3 _ _ hd (List.Pairwise.sublist dz hd) (fun q hq=>dz.subset hq),fun e=>?_⟩;rw[e] at h1⊢;rw[vZc (by omega) hb] at h1;cases h1;exact⟨rfl,rfl⟩
theorem vLp {k}(hk:200≤k){B}(hb:qR B){l}(hd:qK l)(hl:∀q∈l,yN B.1.length q)(bQ:l.length≤64) t all:
  ∃(C:BT) (m done:List zH),yc k B.1 B.2.1 B.2.2.1 B.2.2.2 l t all=some (C.1,C.2.1,C.2.2.1,C.2.2.2,m,done)∧qR C∧C.1.length=B.1.length∧List.Sublist m l∧List.Perm (done++m) l∧fW k C (wE m t)=none∧fO k C m t=none:=by
 obtain⟨C,m,d,f1,f2,f3,f4,f5⟩:=GO hk hb hd (by omega) t;have p1:=f2.perm hd;have l1:=p1.length_eq;rw[ay] at l1;unfold yc;rw[f1];simp only[ae];cases all with
 |false=>exact⟨C,m,d,rfl,f3,f4,f5,p1,f2.final⟩
 |true=>
  have hm:qK m:=List.Pairwise.sublist f5 hd;obtain⟨D,n,x,g1,g2,g3,g4,g5,g6⟩:=ZR hk f3 hm (by grind) (by omega) t;have l2:=g5.length_eq;rw[ay] at l2;rw[g1];simp only[ae];cases x with
  |nil=>
   obtain⟨rfl,rfl⟩:=g6 rfl;exact⟨D,n,d,rfl,f3,f4,f5,p1,f2.final⟩
  |cons p x=>
   have e1:decide ((((p::x).length:Nat):Int)=0)=false:=by grind
   have hn:qK n:=List.Pairwise.sublist g4 hm;obtain⟨E,o,y,k1,k2,k3,k4,k5⟩:=GO hk g2 hn (by omega) t;have p3:=k2.perm hn;have l3:=p3.length_eq;rw[ay] at l3;have r1:zM (d.length+(p::x).length) 56=true:=qE (by omega) (by omega);have r2:zM ((d++(p::x)).length+y.length) 56=true:=qE (by simp at l2⊢;omega) (by simp at l2⊢;omega);rw[k1];simp only[ae,r1,r2];refine⟨E,o,d++(p::x)++y,rfl,k3,k4.trans (g3.trans f4),k5.trans (g4.trans f5),?_,k2.final⟩;have e2:d++(p::x)++y++o=d++((p::x)++(y++o)):=by simp
   rw[e2];exact((p3.append_left (p::x)).append_left d).trans ((g5.append_left d).trans p1)
abbrev yI:=Int×Int×Int×Int×Int×Int×Int×Int
abbrev od:yI:=(0,(0,(0,(0,(0,(0,(0,0)))))))
instance Ce:DecidableEq yI:=@instDecidableEqProd Int (Int×Int×Int×Int×Int×Int×Int) inferInstance (@instDecidableEqProd Int (Int×Int×Int×Int×Int×Int) inferInstance inferInstance)
def fK (to:Int)(p:zH):yI:=(to,18,p.1,p.2.1,p.2.2.1,p.2.2.2.1,0,0)
def sX (p:zH):List yI:=[fK p.2.1 p,fK p.2.2.1 p]
def vT:List zH→List yI
 |[]=>[]
 |p::l=>sX p++vT l
theorem yOw:∀l m,vT (l++m)=vT l++vT m
 |[],_=>rfl
 |p::l,m=>by
  show sX p++vT (l++m)=sX p++vT l++vT m;rw[yOw l m,List.append_assoc]
theorem GP:∀l,(vT l).length=2*l.length
 |[]=>rfl
 |p::l=>by
  show(sX p++vT l).length=_;rw[ay,GP l];simp[sX];omega
theorem yLe (l:List zH) i (hi:i<l.length):vT (l.take (i+1))=vT (l.take i)++sX (l.getD i pd):=by
 rw[←fG l i pd hi,yOw];rfl
theorem yd {n}(h:n≤1000):zM (n+1) 64=true:=qE (by omega) (by omega)
theorem ZS {k}(hk:3≤k)(s8:List zH) s9 av (r:List yI)(hr:r.length≤900) p:
  ye k k s8 s9 av 2 0 r p.1 p.2.1 p.2.2.1 p.2.2.2.1 p.2.2.2.2.1 p.2.2.2.2.2.1 p.2.2.2.2.2.2 [p.2.1,p.2.2.1]=some (s8,s9,av,r++sX p):=by
 obtain⟨n,rfl⟩:∃n,k=n+3:=⟨k-3,by omega⟩;have e1:zM (r.length+1) 64=true:=yd (by omega);have e2:zM ((r++[fK p.2.1 p]).length+1) 64=true:=yd (by grind);have h1:qx (n+3) p.2.1 18 [p.1,p.2.1,p.2.2.1,p.2.2.2.1]=some (fK p.2.1 p):=rfl;have h2:qx (n+3) p.2.2.1 18 [p.1,p.2.1,p.2.2.1,p.2.2.2.1]=some (fK p.2.2.1 p):=rfl;have w0:zA (0+1)=1:=by decide
 have w1:zA (1+1)=2:=by decide
 show yf (n+3) (ye (n+3) (n+2)) s8 s9 av 2 0 r p.1 p.2.1 p.2.2.1 p.2.2.2.1 p.2.2.2.2.1 p.2.2.2.2.2.1 p.2.2.2.2.2.2 [p.2.1,p.2.2.1]=_;unfold yf;have g0:[p.2.1,p.2.2.1].getD (Int.toNat 0) 0=p.2.1:=rfl;have b0:zB 0 [p.2.1,p.2.2.1].length=true:=rfl;have d0:decide ((0:Int)<2)=true:=rfl;simp[e1];show yf (n+3) (ye (n+3) (n+1)) s8 s9 av 2 1 (r++[fK p.2.1 p]) p.1 p.2.1 p.2.2.1 p.2.2.2.1 p.2.2.2.2.1 p.2.2.2.2.2.1 p.2.2.2.2.2.2 [p.2.1,p.2.2.1]=_;unfold yf;have g1:[p.2.1,p.2.2.1].getD (Int.toNat 1) 0=p.2.2.1:=rfl;have b1:zB 1 [p.2.1,p.2.2.1].length=true:=rfl;have d1:decide ((1:Int)<2)=true:=rfl;simp only[ai,ae,e2];show yf (n+3) (ye (n+3) n) s8 s9 av 2 2 (r++[fK p.2.1 p]++[fK p.2.2.1 p]) p.1 p.2.1 p.2.2.1 p.2.2.2.1 p.2.2.2.2.1 p.2.2.2.2.2.1 p.2.2.2.2.2.2 [p.2.1,p.2.2.1]=_;unfold yf;have d2:decide ((2:Int)<2)=false:=rfl;rw[d2,List.append_assoc];rfl
theorem yZ7 {k}{l:List zH}(hk:l.length+3≤k)(hl:l.length≤400):QP k l=some (vT l):=by
 unfold QP;obtain ⟨s', h1, h2⟩ := yZ (L := fun n i (s : List yI) => L6 k n l l.length i s) (N := l.length) (fun s => s) (fun i s => s = vT (l.take i)) (fun n s _=>by
  show GQ k _ l l.length l.length s=_;unfold GQ;simp) (fun n i s hi hs=>by
  refine⟨_,?_,(yLe l i hi).symm⟩;show GQ k _ l l.length i s=_;unfold GQ;have dz:s.length≤900:=by
   rw[hs,GP,bP];omega
  have h2:=ZS (k:=k) (by omega) l l.length i s dz (l.getD i pd);simp only[zY,qS,ao,aa hi,ai];rw[h2];simp[qB hi (by grind)];rw[hs]) (s:=[]) (show l.length<k by omega) rfl
 simp_all
theorem vM1 {k}{l:List zH}(hk:l.length+5≤k)(hl:l.length≤400):QQ k l=some (vT l):=by
 unfold QQ;obtain ⟨s', h1, h2⟩ := yZ (L := fun n i (s : List yI) => L7 k n l i s) (N := l.length) (fun s => s) (fun i s => s = vT (l.take i)) (fun n s _=>by
  show GR k _ l l.length s=_;unfold GR;simp) (fun n i s hi hs=>by
  refine⟨_,?_,(yLe l i hi).symm⟩;show GR k _ l i s=_;unfold GR;have dz:s.length≤900:=by
   rw[hs,GP,bP];omega
  obtain⟨j,rfl⟩:∃j,k=j+5:=⟨k-5,by omega⟩;have e2:zM (s.length+2) 64=true:=qE (by omega) (by omega);simp[zY,aa hi,e2,qB hi (by grind)];rw[hs];rfl) (s:=[]) (show l.length<k by omega) rfl
 simp_all
theorem eq8 (p q:yI):((decide (p.1=q.1))&&((decide (p.2.1=q.2.1))&&((decide (p.2.2.1=q.2.2.1))&&((decide (p.2.2.2.1=q.2.2.2.1))&&((decide (p.2.2.2.2.1=q.2.2.2.2.1))&&((decide (p.2.2.2.2.2.1=q.2.2.2.2.2.1))&&((decide (p.2.2.2.2.2.2.1=q.2.2.2.2.2.2.1))&&(decide (p.2.2.2.2.2.2.2=q.2.2.2.2.2.2.2)))))))))=decide (p=q):=by
 grind
theorem vLo {k}{a b:List yI}(hk:a.length<k)(hl:a.length<9223372036854775808):uQ k a b=some (decide (a=b)):=by
 unfold uQ;by_cases hlen:a.length=b.length
 case neg=>
  have e:decide (((a.length:Nat):Int)=((b.length:Nat):Int))=false:=by grind
  have:a≠b:=by grind
  simp_all
 have e:decide (((a.length:Nat):Int)=((b.length:Nat):Int))=true:=by grind
 have := fk (L := fun n i => L8 k n a b i) (N := a.length) (fun i => decide (a.getD i od = b.getD i od)) (.inl ()) (.inr false) (fun n=>by
  show GS k _ a b a.length=_;unfold GS;simp) (fun n i hi=>by
  show GS k _ a b i=_;unfold GS;have e8:=eq8 (a.getD i od) (b.getD i od);simp only[zY,qB hi hl];simp_all) hk
 rw[this,KZ od hlen];grind
def fY (q:zH)(o:yI):Bool:=decide (o.2.2.1=q.1)&&(decide (o.1=q.2.1)&&(decide (o.2.1=21)||(decide (o.2.1=22)||decide (o.2.1=18))))
def kT (q:zH)(o:List yI):Nat:=o.countP (fY q)
theorem Cf q a b:kT q (a++b)=kT q a+kT q b:=List.countP_append
theorem ZT {f:zH→Bool}{q:zH}:∀{ps:List zH},qK ps→q∈ps→f q=true→(∀p∈ps,f p=true→p.1=q.1)→ps.countP f=1
 |[],_,h,_,_=>by cases h
 |p::ps,hd,hq,hf,hu=>by
  have hc:=List.pairwise_cons.1 hd;rw[List.countP_cons];rcases List.mem_cons.1 hq with rfl|hq
  ·rw[hf,if_pos rfl];have:ps.countP f=0:=by
    rw[List.countP_eq_zero];intro r hr ui;exact hc.1 r hr (hu r (List.mem_cons_of_mem _ hr) ui).symm
   omega
  ·have:f p=false:=by
    cases h:f p with
    |false=>rfl
    |true=>exact absurd (hu p (List.mem_cons_self ..) h) (hc.1 q hq)
   rw[this,ZT hc.2 hq hf (fun r hr=>hu r (List.mem_cons_of_mem _ hr))];rfl
def wP (kd:Int)(p:zH):yI:=(p.2.1,kd,p.1,0,0,0,0,0)
theorem GU {kd:Int}(hk:kd=21∨kd=22){q:zH}{ps:List zH}(hd:qK ps):(q∈ps→kT q (ps.map (wP kd))=1)∧((∀p∈ps,p.1≠q.1)→kT q (ps.map (wP kd))=0):=by
 unfold kT;rw[List.countP_map];constructor
 ·intro h;apply ZT hd h
  ·show fY q (wP kd q)=true;unfold fY wP;rcases hk with rfl|rfl<;>simp
  ·intro p hp hf;have eA:fY q (wP kd p)=true:=hf;unfold fY wP at eA;rw[aR,aZ] at eA;exact eA.1
 ·intro h;rw[List.countP_eq_zero];intro p hp hf;have eA:fY q (wP kd p)=true:=hf;unfold fY wP at eA;rw[aR,aZ] at eA;exact h p hp eA.1
theorem yM7 q:∀d,kT q (vT d)=d.countP (fun p=>fY q (fK p.2.1 p))+d.countP (fun p=>fY q (fK p.2.2.1 p))
 |[]=>rfl
 |p::d=>by
  show kT q (sX p++vT d)=_;rw[Cf,yM7 q d,List.countP_cons,List.countP_cons];have e:kT q (sX p)=(if fY q (fK p.2.1 p)=true then 1 else 0)+(if fY q (fK p.2.2.1 p)=true then 1 else 0):=by
   unfold kT sX;grind
  omega
theorem QR {n:Nat}{q:zH}{d:List zH}(hd:qK d)(hm:∀p∈d,yN n p):(q∈d→kT q (vT d)=1)∧((∀p∈d,p.1≠q.1)→kT q (vT d)=0):=by
 have h2:∀(l:List zH),qK l→(∀p∈l,yN n p)→(q∈l∨∀p∈l,p.1≠q.1)→l.countP (fun p=>fY q (fK p.2.2.1 p))=0:=by
  intro l sY Gv hq;rw[List.countP_eq_zero];intro p hp hf;have eA:fY q (fK p.2.2.1 p)=true:=hf;unfold fY fK at eA;rw[aR,aR,aZ,aZ] at eA;rcases hq with hq|hq
  ·have:=sY.eq_of hp hq eA.1;subst this;exact(Gv p hp).ne eA.2.1.symm
  ·exact hq p hp eA.1
 rw[yM7];constructor
 ·intro h;rw[h2 d hd hm (.inl h),ZT hd h]
  ·show fY q (fK q.2.1 q)=true;unfold fY fK;simp
  ·intro p hp hf;have eA:fY q (fK p.2.1 p)=true:=hf;unfold fY fK at eA;rw[aR,aZ] at eA;exact eA.1
 ·intro h;rw[h2 d hd hm (.inr h)];have:d.countP (fun p=>fY q (fK p.2.1 p))=0:=by
   rw[List.countP_eq_zero];intro p hp hf;have eA:fY q (fK p.2.1 p)=true:=hf;unfold fY fK at eA;rw[aR,aZ] at eA;exact h p hp eA.1
  omega
def yg (B:BT)(i:Nat):yI:=((i:Int),23,(B.1.getD i ad).1,0,0,0,0,0)
def iX (B:BT)(n:Nat):List yI:=(List.range n).map (yg B)
theorem yX0 q B n:kT q (iX B n)=0:=by
 unfold kT iX;rw[List.countP_map,List.countP_eq_zero];intro i _ hf;have eA:fY q (yg B i)=true:=hf;unfold fY yg at eA;simp at eA
theorem vD8 B i:iX B (i+1)=iX B i++[yg B i]:=by
 unfold iX;rw[List.range_succ,List.map_append];rfl
theorem vC0 {α β:Type}(f:α→β)(l:List α) i d (h:i<l.length):(l.take (i+1)).map f=(l.take i).map f++[f (l.getD i d)]:=by
 rw[←fG l i d h,List.map_append];rfl
theorem yL5 {k B}(hB:B.1.length≤6)(hk:200≤k){m:List zH}(hm:m.length≤100) t pr ho ids to ov:
  QS k t B.1 B.2.1 B.2.2.1 B.2.2.2 pr ho m ids to ov=some (t,B.1,B.2.1,B.2.2.1,B.2.2.2,pr,ho,[],ids,to,true,m.map (wP 22)++iX B B.1.length):=by
 unfold QS;obtain ⟨s', h1, h2⟩ := yZ (L := fun n i (s : List yI) => GV k n m m.length i t B.1 B.2.1 B.2.2.1 B.2.2.2 pr ho m ids to ov 0 0 false s) (N := m.length) (fun s => (t, B.1, B.2.1, B.2.2.1, B.2.2.2, pr, ho, m, ids, to, ov, 0, 0, false, s)) (fun i s => s = (m.take i).map (wP 22)) (fun n s _=>by
  show GW k _ m m.length m.length t B.1 B.2.1 B.2.2.1 B.2.2.2 pr ho m ids to ov 0 0 false s=_;unfold GW;simp) (fun n i s hi hs=>by
  refine⟨_,?_,(vC0 (wP 22) m i pd hi).symm⟩;show GW k _ m m.length i t B.1 B.2.1 B.2.2.1 B.2.2.2 pr ho m ids to ov 0 0 false s=_;unfold GW;have dz:s.length≤900:=by grind
  have GX:qx k (m.getD i pd).2.1 22 [(m.getD i pd).1]=some (wP 22 (m.getD i pd)):=rfl;simp only[zY,qS,ao,aa hi,ai,GX,ae,yd (show s.length≤1000 by omega),qB hi (by grind)];rw[hs]) (s:=[]) (show m.length<k by omega) rfl
 have fg:GV k k m m.length 0 t B.1 B.2.1 B.2.2.1 B.2.2.2 pr ho m ids to ov 0 0 false []=_:=h1;rw[fg,h2,List.take_length];obtain ⟨s2, g1, g2⟩ := yZ (L := fun n i (s : List yI) => L9 k n B.1 B.1.length i t B.1 B.2.1 B.2.2.1 B.2.2.2 pr ho m ids to ov 0 0 false s) (N := B.1.length) (fun s => (t, B.1, B.2.1, B.2.2.1, B.2.2.2, pr, ho, m, ids, to, ov, 0, 0, false, s)) (fun i s => s = m.map (wP 22) ++ iX B i) (fun n s _=>by
  show GY k _ B.1 B.1.length B.1.length t B.1 B.2.1 B.2.2.1 B.2.2.2 pr ho m ids to ov 0 0 false s=_;unfold GY;simp) (fun n i s hi hs=>by
  refine⟨_,?_,(show m.map (wP 22)++iX B i++[yg B i]=m.map (wP 22)++iX B (i+1) by rw[vD8,List.append_assoc])⟩;show GY k _ B.1 B.1.length i t B.1 B.2.1 B.2.2.1 B.2.2.2 pr ho m ids to ov 0 0 false s=_;unfold GY;have dz:s.length≤900:=by
   rw[hs,ay,List.length_map];unfold iX;grind
  have GX:qx k i 23 [(B.1.getD i ad).1]=some (yg B i):=rfl;have ho3:qx k i 23 [(B.1.getD i (0,0,0)).1]=some (yg B i):=GX;simp only[zY,qS,ao,aa hi,ai,ho3,ae,yd (show s.length≤1000 by omega),qB hi (by grind)];rw[hs]) (s:=m.map (wP 22)) (show B.1.length<k by omega) (by show _=_++[];simp)
 simp_all
def vD (t:Int)(p:zH):Bool:=decide (t>p.2.2.2.2.2.2)
theorem yXr {k:Nat}(hk:200≤k){m:List zH}(hm:m.length≤100)(pa:Int)(as:List (Int×Int))(cu cl pe t:Int)(B:BT)(pr:AC)(ho:EQ)(ids:AC)(to:Int)(ov:Bool):
  GZ k k m m.length 0 pa as cu cl pe t B.1 B.2.1 B.2.2.1 B.2.2.2 pr ho m ids to ov 0 0 false [] []=some (pa,as,cu,cl,pe,t,B.1,B.2.1,B.2.2.1,B.2.2.2,pr,ho,m,ids,to,ov,0,0,false,(m.filter (vD t)).map (wP 21),m.filter (fun p=> !vD t p)):=by
 obtain ⟨s', h1, h2, h3⟩ := yZ (L := fun n i (s : List yI × List zH) => GZ k n m m.length i pa as cu cl pe t B.1 B.2.1 B.2.2.1 B.2.2.2 pr ho m ids to ov 0 0 false s.1 s.2) (N := m.length) (fun s => (pa, as, cu, cl, pe, t, B.1, B.2.1, B.2.2.1, B.2.2.2, pr, ho, m, ids, to, ov, 0, 0, false, s.1, s.2)) (fun i s => s.1 = ((m.take i).filter (vD t)).map (wP 21) ∧ s.2 = (m.take i).filter (fun p => !vD t p)) (fun n s _=>by
  show G0 k _ m m.length m.length pa as cu cl pe t B.1 B.2.1 B.2.2.1 B.2.2.2 pr ho m ids to ov 0 0 false s.1 s.2=_;unfold G0;simp only [qS, ab (Nat.lt_irrefl _), ak]) (fun n i s hi hs=>by
  have tS:s.1.length≤900:=by
   rw[hs.1,List.length_map];have:=List.length_filter_le (vD t) (m.take i);rw[bP] at this;omega
  have nK:s.2.length≤900:=by
   rw[hs.2];have:=List.length_filter_le (fun p=> !vD t p) (m.take i);rw[bP] at this;omega
  show∃s',G0 k _ m m.length i pa as cu cl pe t B.1 B.2.1 B.2.2.1 B.2.2.2 pr ho m ids to ov 0 0 false s.1 s.2=_∧_;unfold G0 ZU;have GX:qx k (m.getD i pd).2.1 21 [(m.getD i pd).1]=some (wP 21 (m.getD i pd)):=rfl;simp only[pd] at GX;simp only[zY,qS,ao,aa hi,ai,GX,ae,yd (show s.1.length≤1000 by omega),n9 (show s.2.length≤1000 by omega),qB hi (show m.length<9223372036854775808 by omega)];have f1:=B2 (vD t) m i pd hi;have f2:=B2 (fun p=> !vD t p) m i pd hi;cases hb:vD t (m.getD i pd) with
  |true=>
   have bg:decide (t>(m.getD i (0,0,0,0,0,0,0)).2.2.2.2.2.2)=true:=hb;rw[bg];refine⟨(s.1++[wP 21 (m.getD i pd)],s.2),rfl,?_,?_⟩
   ·show s.1++_=_;rw[f1,hb,hs.1];simp
   ·show s.2=_;rw[f2,hb,hs.2];simp
  |false=>
   have bg:decide (t>(m.getD i (0,0,0,0,0,0,0)).2.2.2.2.2.2)=false:=hb;rw[bg];refine⟨(s.1,s.2++[m.getD i pd]),rfl,?_,?_⟩
   ·show s.1=_;rw[f1,hb,hs.1];simp
   ·show s.2++_=_;rw[f2,hb,hs.2];simp) (s:=([],[])) (show m.length<k by omega) ⟨rfl,rfl⟩
 have:=h1.trans (by rw[h2,h3,List.take_length]);exact this
structure ZV (t cl:Int) (B C:BT) (m m':List zH) (ov:Bool) (o:List yI):Prop where
 bk:qR C
 bl:C.1.length=B.1.length
 sub:List.Sublist m' m
 over:ov=decide (t+1=cl)
 none:ov=true→m'=[]
 late:ov=false→∀p∈m',vD (t+1) p=false
 QB:∀p∈m',kT p o=0
 iG:∀p∈m,p∉m'→kT p o=1
 quiet:∀q:zH,(∀p∈m,p.1≠q.1)→kT q o=0
 room:o.length+2*m'.length≤2*m.length+(if ov=true then 6 else 0)
theorem qK.not_in {l m d:List zH}(hd:qK (d++m)){p}(hp:p∈m):∀q∈d,q.1≠p.1:=fun q hq=>(List.pairwise_append.1 hd).2.2 q hq p hp
end Go.Ab.Gi
