/- Plain proofs, part 0. -/
import Derived.Test.YtpgcgnfpnjolpaaGreatGiAbC
import Derived.Test.YtpgcgnfpnjolpaaGreatGiXS
set_option linter.unusedVariables false
set_option linter.unusedSimpArgs false
set_option linter.unusedSectionVars false
set_option maxRecDepth 100000
namespace Go.Ab
theorem ai {p:Prop}[Decidable p](h:p):decide p=true:=decide_eq_true h
theorem an {p:Prop}[Decidable p](h:¬p):decide p=false:=decide_eq_false h
theorem yWd {p:Prop}[Decidable p](h:decide p=true):p:=of_decide_eq_true h
theorem yWe {p:Prop}[Decidable p](h:decide p=false):¬p:=of_decide_eq_false h
theorem jm {p:Prop}[Decidable p]:(decide p=true)=p:=decide_eq_true_eq
theorem aG {α β:Type}(a:α)(f:α→Option β):(some a).bind f=f a:=rfl
theorem aY {α:Type}(a b:α):cond true a b=a:=rfl
theorem aU {α:Type}(a b:α):cond false a b=b:=rfl
theorem bh (n:Nat):(n:Int).toNat=n:=rfl
theorem cY (a b:Bool):((a&&b)=true)=(a=true∧b=true):=Bool.and_eq_true a b
theorem bX:(!true)=false:=rfl
theorem fI:(!false)=true:=rfl
end Go.Ab
namespace Go.Ab
theorem zR {x:Int}(h1:-9223372036854775808≤x)(h2:x<9223372036854775808):zA x=x:=by
 unfold zA IntKind.wrap;simp only[IntKind.bits,IntKind.signed,Bool.true_and];by_cases h:x%2^64≥2^(64-1)
 ·rw[if_pos (by simpa using h)];omega
 ·rw[if_neg (by simpa using h)];omega
theorem yO1 (x:Int):-9223372036854775808≤zA x:=by
 unfold zA IntKind.wrap;simp only[IntKind.bits,IntKind.signed,Bool.true_and];by_cases h:x%2^64≥2^(64-1)
 ·rw[if_pos (by simpa using h)];omega
 ·rw[if_neg (by simpa using h)];omega
theorem yPv (x:Int):zA x<9223372036854775808:=by
 unfold zA IntKind.wrap;simp only[IntKind.bits,IntKind.signed,Bool.true_and];by_cases h:x%2^64≥2^(64-1)
 ·rw[if_pos (by simpa using h)];omega
 ·rw[if_neg (by simpa using h)];omega
theorem qW {i N:Nat}(h:i<N)(hN:N<9223372036854775808):zA ((i:Int)+1)=((i+1:Nat):Int):=by
 rw[zR (by omega) (by omega)];rfl
theorem qG (i n:Nat):zC (i:Int) n=decide (i<n):=by
 unfold zC;simp
theorem GN {i:Int}{n:Nat}(h0:0≤i)(h1:i<n):zC i n=true:=by
 unfold zC;simp;omega
theorem gj {n b}(h:n*b≤140737488355328)(h':n≤140737488355328):qT n b=true:=by
 simp_all
theorem yW (i n:Nat):decide ((i:Int)<(n:Int))=decide (i<n):=by simp
theorem oJ (i n:Nat):decide ((i:Int)=(n:Int))=decide (i=n):=by
 by_cases h:i=n
 ·subst h;simp
 ·rw[an h,an (by omega)]
def zU (p:Nat→Bool):Nat→Nat→Bool
 |0,_=>true
 |c+1,i=>p i&&zU p c (i+1)
theorem Rr {p:Nat→Bool}:∀{c i:Nat},zU p c i=true↔∀j,i≤j→j<i+c→p j=true
 |0,i=>by simp[zU];intro j h1 h2;omega
 |c+1,i=>by
  simp only[zU,cY,Rr (c:=c)];constructor
  ·rintro⟨h1,h2⟩ j h3 h4
   by_cases e:j=i
   ·subst e;exact h1
   ·exact h2 j (by omega) (by omega)
  ·intro h;exact⟨h i (Nat.le_refl i) (by omega),fun j h1 h2=>h j (by omega) (by omega)⟩
theorem wQ {p c}:zU p c 0=true↔∀j,j<c→p j=true:=by
 rw[Rr];simp
theorem Rs {X:Type}{L:Nat→Int→Option X}{N:Nat} ok a b (bD:∀n,L (n+1) (N:Int)=some a)
  (aA:∀n i,i<N→L (n+1) (i:Int)=bif ok i then L n ((i+1:Nat):Int) else some b):∀c i n,i+c=N→c<n→L n (i:Int)=some (bif zU ok c i then a else b)
 |0,i,n,h,hn=>by
  obtain⟨n,rfl⟩:∃m,n=m+1:=⟨n-1,by omega⟩;have:i=N:=by omega
  subst this;exact bD n
 |c+1,i,n,h,hn=>by
  obtain⟨n,rfl⟩:∃m,n=m+1:=⟨n-1,by omega⟩;rw[aA n i (by omega)];unfold zU;cases ok i with
  |false=>rfl
  |true=>
   exact Rs ok a b bD aA c (i+1) n (by omega) (by omega)
theorem wS {X:Type}{L:Nat→Int→Option X}{N:Nat} ok a b (bD:∀n,L (n+1) (N:Int)=some a)
  (aA:∀n i,i<N→L (n+1) (i:Int)=bif ok i then L n ((i+1:Nat):Int) else some b) {n} (hn:N<n):L n 0=some (bif zU ok N 0 then a else b):=
 Rs ok a b bD aA N 0 n (by omega) hn
theorem Rt {L:Nat→Int→Option (Unit⊕Int)}{N:Nat}(bad:Nat→Bool)(bD:∀n,L (n+1) (N:Int)=some (.inl ()))
  (aA:∀n i,i<N→L (n+1) (i:Int)=bif bad i then some (.inr (i:Int)) else L n ((i+1:Nat):Int)):
  ∀c i n,i+c=N→c<n→(zU (fun j=> !bad j) c i=true∧L n (i:Int)=some (.inl ()))∨∃x:Nat,i≤x∧x<N∧bad x=true∧(∀j,i≤j→j<x→bad j=false)∧zU (fun j=> !bad j) c i=false∧L n (i:Int)=some (.inr (x:Int))
 |0,i,n,h,hn=>by
  obtain⟨n,rfl⟩:∃m,n=m+1:=⟨n-1,by omega⟩;have:i=N:=by omega
  subst this;exact .inl ⟨rfl,bD n⟩
 |c+1,i,n,h,hn=>by
  obtain⟨n,rfl⟩:∃m,n=m+1:=⟨n-1,by omega⟩;rw[aA n i (by omega)];unfold zU;cases hb:bad i with
  |true=>exact .inr ⟨i,Nat.le_refl i,by omega,hb,fun j h1 h2=>absurd h1 (by omega),rfl,rfl⟩
  |false=>
   simp only[aU,fI,Bool.true_and];rcases Rt bad bD aA c (i+1) n (by omega) (by omega) with h1|⟨x,x1,x2,x3,x4,x5,x6⟩
   ·exact .inl h1
   ·refine .inr ⟨x,by omega,x2,x3,fun j h1 h2=>?_,x5,x6⟩;by_cases e:j=i
    ·subst e;exact hb
    ·exact x4 j (by omega) h2
theorem oK {L:Nat→Int→Option (Unit⊕Int)}{N:Nat}(bad:Nat→Bool)(bD:∀n,L (n+1) (N:Int)=some (.inl ()))
  (aA:∀n i,i<N→L (n+1) (i:Int)=bif bad i then some (.inr (i:Int)) else L n ((i+1:Nat):Int)) {n:Nat} (hn:N<n):
  ∃x:Unit⊕Int,L n 0=some x∧decide ((match x with|.inl _=>(-1:Int)|.inr y=>y)≥0)= !zU (fun j=> !bad j) N 0:=by
 rcases Rt bad bD aA N 0 n (by omega) hn with⟨h1,h2⟩|⟨x,_,_,_,_,h5,h6⟩
 ·exact⟨_,h2,by rw[h1];rfl⟩
 ·exact⟨_,h6,by rw[h5];simp⟩
theorem Ru {S X:Type}{L:Nat→Int→S→Option X}{N}(e:S→X)(inv:Nat→S→Prop)(bD:∀n s,inv N s→L (n+1) (N:Int) s=some (e s))
  (aA:∀n i s,i<N→inv i s→∃s',L (n+1) (i:Int) s=L n ((i+1:Nat):Int) s'∧inv (i+1) s'):
  ∀c i n s,i+c=N→c<n→inv i s→∃s',L n (i:Int) s=some (e s')∧inv N s'
 |0,i,n,s,h,hn,hs=>by
  obtain⟨n,rfl⟩:∃m,n=m+1:=⟨n-1,by omega⟩;grind
 |c+1,i,n,s,h,hn,hs=>by
  obtain⟨n,rfl⟩:∃m,n=m+1:=⟨n-1,by omega⟩;obtain⟨s',h1,h2⟩:=aA n i s (by omega) hs;rw[h1];exact Ru e inv bD aA c (i+1) n s' (by omega) (by omega) h2
theorem hZ {S X:Type}{L:Nat→Int→S→Option X}{N}(e:S→X)(inv:Nat→S→Prop)(bD:∀n s,inv N s→L (n+1) (N:Int) s=some (e s))
 (aA:∀n i s,i<N→inv i s→∃s',L (n+1) (i:Int) s=L n ((i+1:Nat):Int) s'∧inv (i+1) s') {n s} (hn:N<n) (hs:inv 0 s):
 ∃s',L n 0 s=some (e s')∧inv N s':=Ru e inv bD aA N 0 n s (by omega) hn hs
def zP {α:Type}(g:α→Int):List α→Int
 |[]=>0
 |p::l=>g p+zP g l
theorem gk {α} g:∀(l m:List α),zP g (l++m)=zP g l+zP g m
 |[],m=>by simp[zP]
 |p::l,m=>by
  show g p+zP g (l++m)=g p+zP g l+zP g m;rw[gk g l m];omega
theorem rS {α g A}:∀{l:List α},(∀p∈l,-A≤g p∧g p≤A)→-(l.length*A)≤zP g l∧zP g l≤l.length*A
 |[],_=>by simp[zP]
 |p::l,h=>by
  have h1:=h p (by simp);have h2:=rS (l:=l) fun q hq=>h q (by grind)
  have e:((p::l).length:Int)*A=(l.length:Int)*A+A:=by
   rw[List.length_cons,Int.natCast_add,Int.add_mul];simp
  show-_≤g p+zP g l∧g p+zP g l≤_;omega
theorem A6 {α g}:∀{l:List α},(∀p∈l,0≤g p)→0≤zP g l
 |[],_=>by simp[zP]
 |p::l,h=>by
  have h1:=h p (by simp);have h2:=A6 (l:=l) fun q hq=>h q (by grind)
  show 0≤g p+zP g l;omega
theorem GO {α} g h:∀(l:List α),zP (fun p=>g p-h p) l=zP g l-zP h l
 |[]=>rfl
 |p::l=>by
  show g p-h p+zP _ l=g p+zP g l-(h p+zP h l);rw[GO g h l];omega
theorem GP {α g h}:∀{l:List α},(∀p∈l,g p=h p)→zP g l=zP h l
 |[],_=>rfl
 |p::l,e=>by
  show g p+zP g l=h p+zP h l;rw[e p (by simp),GP fun q hq=>e q (by grind)]
def qF (g:Nat→Int):Nat→Int
 |0=>0
 |n+1=>qF g n+g n
theorem we g h:∀n,qF (fun j=>g j+h j) n=qF g n+qF h n
 |0=>rfl
 |n+1=>by
  show qF _ n+(g n+h n)=qF g n+g n+(qF h n+h n);rw[we g h n];omega
theorem wg {g h}:∀{n},(∀j,j<n→g j=h j)→qF g n=qF h n
 |0,_=>rfl
 |n+1,e=>by
  show qF g n+g n=qF h n+h n;rw[wg fun j hj=>e j (by omega),e n (by simp)]
theorem wh (c:Int)(t:Nat):∀n,qF (fun j=>if j=t then c else 0) n=if t<n then c else 0
 |0=>rfl
 |n+1=>by
  show qF _ n+(if n=t then c else 0)=_;rw[wh c t n];by_cases h:t<n
  ·rw[if_pos h,if_neg (by omega),if_pos (by omega)];omega
  ·by_cases h':n=t
   ·rw[if_neg h,if_pos h',if_pos (by omega)];omega
   ·rw[if_neg h,if_neg h',if_neg (by omega)];omega
theorem Rv:∀n,qF (fun _=>0) n=0
 |0=>rfl
 |n+1=>by show qF _ n+0=0;rw[Rv n];rfl
theorem Rw {g A}(h:∀j,-A≤g j∧g j≤A):∀n:Nat,-(n*A)≤qF g n∧qF g n≤n*A
 |0=>by simp[qF]
 |n+1=>by
  have h1:=h n;have h2:=Rw h n;have e:((n+1:Nat):Int)*A=(n:Int)*A+A:=by
   grind
  show-_≤qF g n+g n∧qF g n+g n≤_;omega
theorem GQ {α}(g:Nat→α→Int) n:∀l:List α,qF (fun j=>zP (g j) l) n=zP (fun p=>qF (fun j=>g j p) n) l
 |[]=>Rv n
 |p::l=>by
  show qF (fun j=>g j p+zP (g j) l) n=qF (fun j=>g j p) n+zP _ l;rw[we,GQ g n l]
theorem oL {α:Type}{l:List α}{i d}(h:i<l.length):l.getD i d∈l:=by
 simp_all
theorem kU {α:Type}(l:List α) i d (h:i<l.length):l.take i++[l.getD i d]=l.take (i+1):=by
 simp_all
theorem fJ {α:Type}(l:List α)(i j:Nat)(a d:α):(l.set i a).getD j d=if i=j∧i<l.length then a else l.getD j d:=by
 rw[List.getD_eq_getElem?_getD,List.getD_eq_getElem?_getD,List.getElem?_set];by_cases h:i=j
 ·subst h;by_cases h':i<l.length<;>simp[h']
 ·simp[h]
theorem GR {α:Type}{l m:List α} d (hl:l.length=m.length)(h:∀i,i<l.length→l.getD i d=m.getD i d):l=m:=by
 apply List.ext_getElem hl;simp_all
theorem Rx m (hm:m≤62) x:qI .i64 x (2^m-1)=x%2^m:=by
 unfold qI ke;have hp:(2:Int)^m=((2^m:Nat):Int):=by rfl
 have hle:2^m≤2^62:=Nat.pow_le_pow_right (by omega) hm;have uJ:0<2^m:=by grind
 have e1:(BitVec.ofInt IntKind.i64.bits x&&&BitVec.ofInt IntKind.i64.bits (2^m-1)).toNat=(x%2^m).toNat:=by
  rw[BitVec.toNat_and,BitVec.toNat_ofInt,BitVec.toNat_ofInt];have e2:((2:Int)^m-1)%((2^IntKind.i64.bits:Nat):Int)=((2^m-1:Nat):Int):=by
   rw[hp];have:((2^m:Nat):Int)-1=((2^m-1:Nat):Int):=by omega
   rw[this];apply Int.emod_eq_of_lt (by omega);show((2^m-1:Nat):Int)<((2^64:Nat):Int);omega
  rw[e2,bh,Nat.and_two_pow_sub_one_eq_mod];have hx:0≤x%((2^IntKind.i64.bits:Nat):Int):=by omega
  have e3:x%2^m=(x%((2^IntKind.i64.bits:Nat):Int))%((2^m:Nat):Int):=by
   rw[hp,Int.emod_emod_of_dvd];show((2^m:Nat):Int)∣((2^64:Nat):Int);exact Int.natCast_dvd_natCast.2 (Nat.pow_dvd_pow 2 (by omega))
  grind
 rw[e1];have h0:0≤x%2^m:=by omega
 rw[Int.toNat_of_nonneg h0];exact zR (by omega) (by omega)
end Go.Ab
namespace Go.Ab.Gi
open Go.Ab
theorem Ry x:qI .i64 x 4294967295=x%4294967296:=Rx 32 (by omega) x
theorem Rz x:shr .i64 x 32=x/4294967296:=by
 show x.fdiv (2^(min 32 64))=_;grind
theorem yDy x:shl .i64 x 32=zA (x*4294967296):=rfl
abbrev yF:=Int×Int×Int
abbrev zQ:=Int×Int×Int×Int×Int×Int×Int
def jG (a:yF):Bool:=decide (a.1>-4611686018427387904)&&(decide (a.1<4611686018427387904)&&(decide (a.2.1≥0)&&(decide (a.2.1≤2305843009213693952)&&(decide (a.2.2≥0)&&decide (a.2.2≤2305843009213693952)))))
def yV (n:Int):Bool:=decide (n≥-1)&&decide (n≤2305843009213693952)
def wR (n:Int):Bool:=decide (n>-72057594037927936)&&decide (n<72057594037927936)
def cell (m:EQ)(i j:Nat):Int:=(m.getD i []).getD j 0
def fe (n:Nat)(m:EQ):Bool:=decide (m.length=n)&&zU (fun i=>decide ((m.getD i []).length=n)) n 0
def ic (p:Int→Bool)(n:Nat)(m:EQ):Bool:=zU (fun i=>zU (fun j=>p (cell m i j)) n 0) n 0
def mi (n:Nat)(m:EQ):Bool:=zU (fun i=>zU (fun j=>decide (cell m i j=zA (0-cell m j i))) n 0) n 0
def eL (mj:List yF)(bil:EQ)(mul:AC)(pos:EQ):Bool:=
 let n:=mj.length
 decide (1≤n)&&(decide (n≤6)&&(fe n bil&&(fe n pos&&(decide (mul.length=n)&&(zU (fun i=>jG (mj.getD i (0,0,0))) n 0&&(zU (fun i=>yV (mul.getD i 0)) n 0&&(ic yV n bil&&(ic wR n pos&&mi n pos))))))))
theorem RA k b c r:A7 k b c r=some (jG (b,c,r)):=by
 unfold A7 jG;grind
theorem yR3 k b c r:A8 k b c r=some (jG (b,c,r)):=RA k b c r
theorem GS k n:wi k n=some (yV n):=by
 unfold wi yV;grind
theorem yEq k n:GU k n=some (yV n):=GS k n
theorem yOj k n:A9 k n=some (wR n):=by
 unfold A9 wR;grind
theorem RB {k:Nat}{n:Nat}(hk:n<k)(hn:n≤1000)(m:EQ):wj k m n=some (fe n m):=by
 unfold wj fe;simp only[oJ];by_cases h:m.length=n
 ·have := wS (L := fun c i => wk k c m n i) (N := n) (fun i => decide ((m.getD i []).length = n)) (.inl ()) (.inr false) (fun c=>by
    show rT k _ m n n=_;unfold rT;simp only [yW, an (Nat.lt_irrefl n), aU]) (fun c i hi=>by
    show rT k _ m n i=_;unfold rT;simp only[qG,qW hi (by omega),yW,oJ,bh,h,ai hi,aY];cases decide ((m.getD i []).length=n)<;>rfl) hk
  simp only[h,decide_true,bX,aU,Bool.true_and];rw[this];generalize zU _ _ _=r;cases r<;>rfl
 ·simp only[an h,fI,aY,Bool.false_and]
theorem ySa {k:Nat}{N i:Nat}(hk:N<k)(hN:N≤1000)(hi:i<N){a:List yF}{b p:EQ}{m:AC}(hb:b.length=N)(hp:p.length=N)(GV:∀j,j<N→(b.getD j []).length=N)(ie:∀j,j<N→(p.getD j []).length=N):
  rU k k N i 0 a b m p=some (bif zU (fun j=>yV (cell b i j)&&(wR (cell p i j)&&decide (cell p i j=zA (0-cell p j i)))) N 0 then .inl ((N:Int),(i:Int),a,b,m,p) else .inr false):=by
 refine wS (L:=fun c j=>rU k c N i j a b m p) (N:=N) _ (.inl ((N:Int),(i:Int),a,b,m,p)) (.inr false) (fun c=>?_) (fun c j hj=>?_) hk
 ·show rV k _ N i N a b m p=_;unfold rV;simp only[yW,an (Nat.lt_irrefl N),aU]
 ·show rV k _ N i j a b m p=_;unfold rV;simp only[qG,qW hj (by omega),yW,bh,hb,hp,GV i hi,ie i hi,ie j hj,ai hj,ai hi,aY,GS,aG,wR];show(bif !yV (cell b i j) then _ else bif decide (cell p i j≤_) then _ else bif decide (cell p i j≥_) then _ else bif !decide (cell p i j=_) then _ else _)=_;have e1:decide (cell p i j≤-72057594037927936)= !decide (cell p i j>-72057594037927936):=by
   by_cases h:cell p i j≤-72057594037927936
   ·rw[ai h,an (by omega)];rfl
   ·rw[an h,ai (by omega)];rfl
  have e2:decide (cell p i j≥72057594037927936)= !decide (cell p i j<72057594037927936):=by
   by_cases h:cell p i j≥72057594037927936
   ·rw[ai h,an (by omega)];rfl
   ·rw[an h,ai (by omega)];rfl
  rw[e1,e2];show(bif !yV (cell b i j) then _ else bif _ then _ else bif _ then _ else bif !decide (cell p i j=zA (0-cell p j i)) then _ else _)=_;cases yV (cell b i j)<;>cases decide (cell p i j>-72057594037927936)<;>cases decide (cell p i j<72057594037927936)<;>cases decide (cell p i j=zA (0-cell p j i))<;>rfl
theorem yA3 {k:Nat}{N:Nat}(hk:N<k)(hN:N≤1000){a:List yF}{b p:EQ}{m:AC}(ha:a.length=N)(hm:m.length=N)(hb:b.length=N)(hp:p.length=N)(GV:∀j,j<N→(b.getD j []).length=N)(ie:∀j,j<N→(p.getD j []).length=N):
  rW k k N 0 a b m p=some (bif zU (fun i=>jG (a.getD i (0,0,0))&&(yV (m.getD i 0)&&zU (fun j=>yV (cell b i j)&&(wR (cell p i j)&&decide (cell p i j=zA (0-cell p j i)))) N 0)) N 0 then .inl () else .inr false):=by
 refine wS (L:=fun c j=>rW k c N j a b m p) (N:=N) _ (.inl ()) (.inr false) (fun c=>?_) (fun c i hi=>?_) hk
 ·show rY k _ N N a b m p=_;unfold rY;simp only[yW,an (Nat.lt_irrefl N),aU]
 ·show rY k _ N i a b m p=_;unfold rY;simp only[qG,yW,bh,ha,hm,ai hi,aY,GS,RA,aG,ySa hk hN hi hb hp GV ie];generalize zU _ N 0=r;show(bif !jG (a.getD i (0,0,0)) then _ else _)=_;cases jG (a.getD i (0,0,0))<;>cases yV (m.getD i 0)<;>cases r<;>simp only[bX,fI,aY,aU,Bool.and_true,Bool.and_false,Bool.true_and,Bool.false_and,qW hi (show N<9223372036854775808 by omega)]
theorem RD {k:Nat}(hk:10<k)(a:List yF)(b:EQ)(m:AC)(p:EQ):rZ k a b m p=some (eL a b m p):=by
 unfold rZ;have l1:decide ((a.length:Int)<1)= !decide (1≤a.length):=by
  by_cases h:1≤a.length
  ·rw[ai h,an (by omega)];rfl
  ·rw[an h,ai (by omega)];rfl
 have l2:decide ((a.length:Int)>6)= !decide (a.length≤6):=by
  by_cases h:a.length≤6
  ·rw[ai h,an (by omega)];rfl
  ·rw[an h,ai (by omega)];rfl
 rw[l1,l2];unfold eL;dsimp only;by_cases h1:1≤a.length
 case neg=>rw[an h1];rfl
 by_cases h2:a.length≤6
 case neg=>rw[ai h1,an h2];rfl
 rw[ai h1,ai h2];simp only[bX,aU,Bool.true_and];rw[RB (by omega) (by omega),RB (by omega) (by omega)];simp only[aG,oJ];cases hb:fe a.length b with
 |false=>rfl
 |true=>
  cases hp:fe a.length p with
  |false=>rfl
  |true=>
   by_cases hm:m.length=a.length
   case neg=>simp only[an hm];rfl
   simp only[fe,cY,jm,wQ] at hb hp;simp only[hm,decide_true,bX,aU,Bool.true_and];rw[yA3 (by omega) (by omega) rfl hm hb.1 hp.1 hb.2 hp.2];have e:(zU (fun i=>jG (a.getD i (0,0,0))) a.length 0&&(zU (fun i=>yV (m.getD i 0)) a.length 0&&(ic yV a.length b&&(ic wR a.length p&&mi a.length p))))=
     zU (fun i=>jG (a.getD i (0,0,0))&&(yV (m.getD i 0)&&zU (fun j=>yV (cell b i j)&&(wR (cell p i j)&&decide (cell p i j=zA (0-cell p j i)))) a.length 0)) a.length 0:=by
    rw[Bool.eq_iff_iff];simp only[ic,mi,cY,wQ];constructor
    ·rintro⟨h1,h2,h3,h4,h5⟩ i hi
     exact⟨h1 i hi,h2 i hi,fun j hj=>⟨h3 i hi j hj,h4 i hi j hj,h5 i hi j hj⟩⟩
    ·intro h;exact⟨fun i hi=>(h i hi).1,fun i hi=>(h i hi).2.1,fun i hi j hj=>((h i hi).2.2 j hj).1,fun i hi j hj=>((h i hi).2.2 j hj).2.1,fun i hi j hj=>((h i hi).2.2 j hj).2.2⟩
   rw[e];generalize zU _ _ _=r;cases r<;>rfl
theorem yN9 {k}{a:List yF}(hk:a.length<k)(hl:a.length<9223372036854775808):Ba k a=some (!zU (fun i=>jG (a.getD i (0,0,0))) a.length 0):=by
 obtain ⟨x, h1, h2⟩ := oK (L := fun c i => wm k c a a.length i) (N := a.length) (fun i => !jG (a.getD i (0, 0, 0))) (fun c=>by
  show sb k _ a a.length a.length=_;unfold sb;simp) (fun c i hi=>by
  show sb k _ a a.length i=_;unfold sb GW;simp[qG,qW hi hl,ai hi,yR3]) hk
 unfold Ba GX;grind
theorem yA8 {k a}(hk:a.length<k)(hl:a.length<9223372036854775808):Bb k a=some (!zU (fun i=>yV (a.getD i 0)) a.length 0):=by
 obtain ⟨x, h1, h2⟩ := oK (L := fun c i => wo k c a a.length i) (N := a.length) (fun i => !yV (a.getD i 0)) (fun c=>by
  show sd k _ a a.length a.length=_;unfold sd;simp) (fun c i hi=>by
  show sd k _ a a.length i=_;unfold sd GY;simp[qG,qW hi hl,ai hi,yEq]) hk
 unfold Bb GZ;grind
theorem yHs {k a}(hk:a.length<k)(hl:a.length<9223372036854775808):Bc k a=some (!zU (fun i=>wR (a.getD i 0)) a.length 0):=by
 obtain ⟨x, h1, h2⟩ := oK (L := fun c i => wq k c a a.length i) (N := a.length) (fun i => !wR (a.getD i 0)) (fun c=>by
  show se k _ a a.length a.length=_;unfold se;simp) (fun c i hi=>by
  show se k _ a a.length i=_;unfold se G0;simp[qG,qW hi hl,ai hi,yOj]) hk
 unfold Bc G1;grind
theorem RE {k n:Nat}(hk:n<k)(hn:n≤1000)(a:AC):wu k a n=some (decide (a.length=n)&&zU (fun i=>yV (a.getD i 0)) n 0):=by
 unfold wu;simp only[oJ];by_cases h:a.length=n
 ·rw[yA8 (by omega) (by omega)];simp only[h,decide_true,aY,aG,Bool.not_not,Bool.true_and]
 ·simp only[an h,aU,Bool.false_and]
theorem yE5 {k n:Nat}(hk:n<k)(hn:n≤1000)(a:AC):Bd k a n=some (decide (a.length=n)&&zU (fun i=>wR (a.getD i 0)) n 0):=by
 unfold Bd;simp only[oJ];by_cases h:a.length=n
 ·rw[yHs (by omega) (by omega)];simp only[h,decide_true,aY,aG,Bool.not_not,Bool.true_and]
 ·simp only[an h,aU,Bool.false_and]
theorem yJi {k n:Nat}(hk:n<k)(hn:n≤1000)(m:EQ):Be k m n=some (decide (m.length=n)&&zU (fun i=>decide ((m.getD i []).length=n)&&zU (fun j=>yV (cell m i j)) n 0) n 0):=by
 unfold Be;simp only[oJ];by_cases h:m.length=n
 ·have := wS (L := fun c i => wv k c n m n i) (N := n) (fun i => decide ((m.getD i []).length = n) && zU (fun j => yV (cell m i j)) n 0) (.inl ()) (.inr false) (fun c=>by
    show sf k _ n m n n=_;unfold sf;simp only [yW, an (Nat.lt_irrefl n), aU]) (fun c i hi=>by
    show sf k _ n m n i=_;unfold sf;simp only[qG,qW hi (by omega),yW,bh,h,ai hi,aY,RE hk hn,aG];show(bif !(decide ((m.getD i []).length=n)&&zU (fun j=>yV (cell m i j)) n 0) then _ else _)=_;generalize (decide ((m.getD i []).length=n)&&zU (fun j=>yV (cell m i j)) n 0)=r;cases r<;>rfl) hk
  simp only[h,decide_true,bX,aU,Bool.true_and];rw[this];generalize zU _ _ _=r;cases r<;>rfl
 ·simp only[an h,fI,aY,Bool.false_and]
theorem yBy {k n:Nat}(hk:n<k)(hn:n≤1000)(m:EQ):Bf k m n=some (decide (m.length=n)&&zU (fun i=>decide ((m.getD i []).length=n)&&zU (fun j=>wR (cell m i j)) n 0) n 0):=by
 unfold Bf;simp only[oJ];by_cases h:m.length=n
 ·have := wS (L := fun c i => wx k c n m n i) (N := n) (fun i => decide ((m.getD i []).length = n) && zU (fun j => wR (cell m i j)) n 0) (.inl ()) (.inr false) (fun c=>by
    show sg k _ n m n n=_;unfold sg;simp only [yW, an (Nat.lt_irrefl n), aU]) (fun c i hi=>by
    show sg k _ n m n i=_;unfold sg;simp only[qG,qW hi (by omega),yW,bh,h,ai hi,aY,yE5 hk hn,aG];show(bif !(decide ((m.getD i []).length=n)&&zU (fun j=>wR (cell m i j)) n 0) then _ else _)=_;generalize (decide ((m.getD i []).length=n)&&zU (fun j=>wR (cell m i j)) n 0)=r;cases r<;>rfl) hk
  simp only[h,decide_true,bX,aU,Bool.true_and];rw[this];generalize zU _ _ _=r;cases r<;>rfl
 ·simp only[an h,fI,aY,Bool.false_and]
theorem yKy {k N i:Nat}(hk:N<k)(hN:N≤1000)(hi:i<N){p q:EQ}{u:Int}(hp:p.length=N)(ie:∀j,j<N→(p.getD j []).length=N):
  si k k p i q u i (p.getD i []) N 0=some (bif zU (fun j=>decide (cell p j i=zA (0-cell p i j))) N 0 then .inl (p,q,u,(i:Int)) else .inr false):=by
 refine wS (L:=fun c j=>si k c p i q u i (p.getD i []) N j) (N:=N) _ (.inl (p,q,u,(i:Int))) (.inr false) (fun c=>?_) (fun c j hj=>?_) hk
 ·show sj k _ p i q u i (p.getD i []) N N=_;unfold sj;simp only[yW,an (Nat.lt_irrefl N),aU]
 ·show sj k _ p i q u i (p.getD i []) N j=_;unfold sj;simp only[qG,qW hj (show N<9223372036854775808 by omega),yW,bh,hp,ie i hi,ie j hj,ai hj,ai hi,aY];show(bif !decide (cell p j i=zA (0-cell p i j)) then _ else _)=_;generalize decide (cell p j i=zA (0-cell p i j))=r;cases r<;>rfl
theorem yB7 {k N}(hk:N<k)(hN:N≤1000){p}(hp:p.length=N)(ie:∀j,j<N→(p.getD j []).length=N):
  Bg k p=some (mi N p):=by
 have := wS (L := fun c i => wy k c p p N i) (N := N) (fun i => zU (fun j => decide (cell p j i = zA (0 - cell p i j))) N 0) (.inl ()) (.inr false) (fun c=>by
   show sk k _ p p N N=_;unfold sk;simp) (fun c i hi=>by
   show sk k _ p p N i=_;unfold sk;simp only[qG,yW,bh,hp,ie i hi,ai hi,yKy hk hN hi hp ie,aG];generalize zU _ N 0=r;cases r<;>simp[qW hi (by grind)]) hk
 unfold Bg;have e:zU (fun i=>zU (fun j=>decide (cell p j i=zA (0-cell p i j))) N 0) N 0=mi N p:=by
  rw[Bool.eq_iff_iff];simp[mi,wQ];grind
 grind
theorem RF {k:Nat}(hk:10<k)(a:List yF)(b:EQ)(m:AC)(p:EQ):sm k a b m p=some (eL a b m p):=by
 unfold sm;have l1:decide ((a.length:Int)<1)= !decide (1≤a.length):=by
  by_cases h:1≤a.length
  ·rw[ai h,an (by omega)];rfl
  ·rw[an h,ai (by omega)];rfl
 have l2:decide ((a.length:Int)>6)= !decide (a.length≤6):=by
  by_cases h:a.length≤6
  ·rw[ai h,an (by omega)];rfl
  ·rw[an h,ai (by omega)];rfl
 rw[l1,l2];unfold eL;dsimp only;by_cases h1:1≤a.length
 case neg=>rw[an h1];rfl
 by_cases h2:a.length≤6
 case neg=>rw[ai h1,an h2];rfl
 rw[ai h1,ai h2];simp only[bX,aU,Bool.true_and];rw[yN9 (by omega) (by omega),yJi (by omega) (by omega),RE (by omega) (by omega),yBy (by omega) (by omega)];simp only[aG];generalize hA:zU (fun i=>jG (a.getD i (0,0,0))) a.length 0=A;have sq:∀(q:Int→Bool) (m:EQ),(decide (m.length=a.length)&&zU (fun i=>decide ((m.getD i []).length=a.length)&&zU (fun j=>q (cell m i j)) a.length 0) a.length 0)=(fe a.length m&&ic q a.length m):=by
  intro q m;rw[Bool.eq_iff_iff];simp only[fe,ic,cY,jm,wQ];exact⟨fun h=>⟨⟨h.1,fun i hi=>(h.2 i hi).1⟩,fun i hi=>(h.2 i hi).2⟩,fun h=>⟨h.1.1,fun i hi=>⟨h.1.2 i hi,h.2 i hi⟩⟩⟩
 rw[sq yV b,sq wR p];cases hp:fe a.length p with
 |false=>
  cases A<;>cases fe a.length b<;>cases ic yV a.length b<;>cases decide (m.length=a.length)<;>cases zU (fun i=>yV (m.getD i 0)) a.length 0<;>rfl
 |true=>
  simp only[fe,cY,jm,wQ] at hp;rw[yB7 (N:=a.length) (by omega) (by omega) hp.1 hp.2];cases A<;>cases fe a.length b<;>cases ic yV a.length b<;>cases decide (m.length=a.length)<;>cases zU (fun i=>yV (m.getD i 0)) a.length 0<;>cases ic wR a.length p<;>cases mi a.length p<;>rfl
theorem RG {k N:Nat}{s}(hN:s.length=N)(hl:N≤1000)(hr:∀i,i<N→(s.getD i []).length≤1000):∀c i n,i+c=N→c<n→G2 k n s i (s.take i)=some s
 |0,i,n,h,hn=>by
  obtain⟨n,rfl⟩:∃m,n=m+1:=⟨n-1,by omega⟩;show wz k _ s i (s.take i)=_;unfold wz;grind
 |c+1,i,n,h,hn=>by
  obtain⟨n,rfl⟩:∃m,n=m+1:=⟨n-1,by omega⟩;show wz k _ s i (s.take i)=_;unfold wz;have hi:i<s.length:=by omega
  have h1:=hr i (by omega);have e1:qT (0+(s.getD i []).length) 8=true:=gj (by omega) (by omega);have e2:qT ((s.take i).length+1) 24=true:=gj (by grind) (by grind);simp only[qG,qW hi (by grind),yW,bh,ai hi,e1,e2];rw[kU s i [] hi];exact RG hN hl hr c (i+1) n (by omega) (by omega)
theorem RH {k s}(hl:s.length≤1000)(hk:s.length<k)(hr:∀i,i<s.length→(s.getD i []).length≤1000):Bh k s=some s:=by
 unfold Bh;have:=RG (k:=k) rfl hl hr s.length 0 k (by omega) hk;simp_all
theorem RI {k N:Nat}{s}(hN:s.length=N)(hl:N≤1000)(hr:∀i,i<N→(s.getD i []).length≤1000):∀c i n,i+c=N→c<n→w4 k n s N i (s.take i) N=some (s,N)
 |0,i,n,h,hn=>by
  obtain⟨n,rfl⟩:∃m,n=m+1:=⟨n-1,by omega⟩;show sn k _ s N i (s.take i) N=_;unfold sn;grind
 |c+1,i,n,h,hn=>by
  obtain⟨n,rfl⟩:∃m,n=m+1:=⟨n-1,by omega⟩;show sn k _ s N i (s.take i) N=_;unfold sn oM;have hi:i<N:=by omega
  have h1:=hr i (by omega);have e1:qT (0+(s.getD i []).length) 8=true:=gj (by omega) (by omega);have e2:Nat.beq i (s.take i).length=true:=by rw[List.length_take,Nat.min_eq_left (by omega)];simp
  simp only[qG,qW hi (by grind),yW,bh,ai hi,aY,e1,e2,hN,aG];rw[kU s i [] (by omega)];exact RI hN hl hr c (i+1) n (by omega) (by omega)
theorem RJ {k s}(hl:s.length≤1000)(hk:s.length<k)(hr:∀i,i<s.length→(s.getD i []).length≤1000):w5 k s=some s:=by
 unfold w5 G3;have:=RI (k:=k) rfl hl hr s.length 0 k (by omega) hk;rw[List.take_zero] at this;have e:((0:Nat):Int)=0:=rfl;rw[e] at this;have e1:qT (0+s.length) 24=true:=gj (by omega) (by omega);simp only[e1,aY,aG];rw[this];simp only[yMi];simp
structure Sized (a:List yF) (b:EQ) (m:AC) (p:EQ):Prop where
 n1:1≤a.length
 n6:a.length≤6
 bl:b.length=a.length
 br:∀i,i<a.length→(b.getD i []).length=a.length
 ml:m.length=a.length
 pl:p.length=a.length
 pr:∀i,i<a.length→(p.getD i []).length=a.length
structure mm (a:List yF) (b:EQ) (m:AC) (p:EQ):Prop extends Sized a b m p where
 acct:∀i,i<a.length→jG (a.getD i (0,0,0))=true
 mul:∀i,i<a.length→yV (m.getD i 0)=true
 bil:∀i,i<a.length→∀j,j<a.length→yV (cell b i j)=true
 net:∀i,i<a.length→∀j,j<a.length→wR (cell p i j)=true
 turn:∀i,i<a.length→∀j,j<a.length→cell p i j=zA (0-cell p j i)
theorem Bi {a:List yF}{b:EQ}{m:AC}{p:EQ}:eL a b m p=true↔mm a b m p:=by
 unfold eL;simp only[cY,jm,fe,ic,mi,wQ];constructor
 ·rintro⟨h1,h2,⟨h3,h4⟩,⟨h5,h6⟩,h7,h8,h9,h10,h11,G4⟩
  exact{n1:=h1,n6:=h2,bl:=h3,br:=h4,ml:=h7,pl:=h5,pr:=h6,acct:=h8,mul:=h9,bil:=h10,net:=h11,turn:=G4}
 ·intro h;exact⟨h.n1,h.n6,⟨h.bl,h.br⟩,⟨h.pl,h.pr⟩,h.ml,h.acct,h.mul,h.bil,h.net,h.turn⟩
theorem yBu {k}(hk:10<k){a b m p}(h:Sized a b m p):G5 k a b m p=some (a,b,m,p):=by
 obtain⟨h1,h2,h3,h4,h5,h6,h7⟩:=h;unfold G5;have e1:qT (0+a.length) 24=true:=gj (by omega) (by omega);have e2:qT (0+m.length) 8=true:=gj (by omega) (by omega);rw[RH (s:=b) (by omega) (by omega) (by grind),RH (s:=p) (by omega) (by omega) (by grind)];grind
theorem yEh {k}(hk:10<k){a b m p}(h:Sized a b m p):jS k a b m p=some (a,b,m,p):=by
 obtain⟨h1,h2,h3,h4,h5,h6,h7⟩:=h;unfold jS G6 oM;have e1:qT (0+a.length) 24=true:=gj (by omega) (by omega);have e2:qT (0+m.length) 8=true:=gj (by omega) (by omega);rw[RJ (s:=b) (by omega) (by omega) (by grind),RJ (s:=p) (by omega) (by omega) (by grind)];grind
abbrev pd:zQ:=(0,(0,(0,(0,(0,(0,0))))))
abbrev ad:yF:=(0,(0,0))
def ig (n:Nat)(p:zQ):Bool:=decide (p.2.1≥0)&&(decide (p.2.1<(n:Int))&&(decide (p.2.2.1≥0)&&(decide (p.2.2.1<(n:Int))&&(!decide (p.2.1=p.2.2.1)&&(decide (p.2.2.2.1≥1)&&(decide (p.2.2.2.1≤1099511627776)&&(decide (p.2.2.2.2.1≥1)&&decide (p.2.2.2.2.1≤3))))))))
structure jV (n:Nat) (p:zQ):Prop where
 f0:0≤p.2.1
 f1:p.2.1<n
 t0:0≤p.2.2.1
 t1:p.2.2.1<n
 ne:p.2.1≠p.2.2.1
 a1:1≤p.2.2.2.1
 a2:p.2.2.2.1≤1099511627776
 c1:1≤p.2.2.2.2.1
 c3:p.2.2.2.2.1≤3
theorem RK {n p}:ig n p=true↔jV n p:=by
 unfold ig;simp;exact⟨fun⟨h1,h2,h3,h4,h5,h6,h7,h8,h9⟩=>⟨h1,h2,h3,h4,h5,h6,h7,h8,h9⟩,fun⟨h1,h2,h3,h4,h5,h6,h7,h8,h9⟩=>by grind⟩
theorem G7 k (a:List yF) b m p i f t am c s ti:so k a b m p i f t am c s ti=some (ig a.length (i,f,t,am,c,s,ti)):=by
 unfold so ig;grind
theorem RM k (a:List yF) b m p i f t am c s ti:Bj k a b m p i f t am c s ti=some (ig a.length (i,f,t,am,c,s,ti)):=G7 k a b m p i f t am c s ti
def kV (n:Nat)(l:List zQ):Bool:=zU (fun i=>ig n (l.getD i pd)) l.length 0
theorem Bk {n l}:kV n l=true↔∀p∈l,jV n p:=by
 unfold kV;rw[wQ];constructor
 ·intro h p hp;obtain⟨i,hi,rfl⟩:=List.getElem_of_mem hp;have:=h i hi;rw[List.getD_eq_getElem?_getD,List.getElem?_eq_getElem hi] at this;exact RK.1 this
 ·intro h i hi;exact RK.2 (by grind)
theorem yO8 {k}{l:List zQ}(hk:l.length<k)(hl:l.length<9223372036854775808)(a:List yF) b m p:Bl k l a b m p=some (!kV a.length l):=by
 obtain ⟨x, h1, h2⟩ := oK (L := fun c i => w6 k c l l.length i a b m p) (N := l.length) (fun i => !ig a.length (l.getD i pd)) (fun c=>by
  show sr k _ l l.length l.length a b m p=_;unfold sr;simp) (fun c i hi=>by
  show sr k _ l l.length i a b m p=_;unfold sr G8;simp[qG,qW hi hl,ai hi,G7]) hk
 unfold Bl G9;unfold kV;grind
theorem yBe {k}{l:List zQ}(hk:l.length<k)(hl:l.length<9223372036854775808)(a:List yF) b m p:Ha k a b m p l=some (kV a.length l&&decide (l.length≤64)):=by
 unfold Ha;have := wS (L := fun c i => Hb k c l i a b m p) (N := l.length) (fun i => ig a.length (l.getD i pd)) (.inl l) (.inr false) (fun c=>by
  show w7 k _ l l.length a b m p=_;unfold w7;simp) (fun c i hi=>by
  show w7 k _ l i a b m p=_;unfold w7;simp only[qG,qW hi hl,yW,ai hi,RM];simp) hk
 unfold kV;have e:decide (((l.length:Nat):Int)≤64)=decide (l.length≤64):=by
  grind
 grind
def gB (i:Nat)(p:zQ):Int:=(if p.2.2.1=i then p.2.2.2.1 else 0)-(if p.2.1=i then p.2.2.2.1 else 0)
def gS (i j:Nat)(p:zQ):Int:=if p.2.1=i∧p.2.2.1=j then p.2.2.2.1 else 0
def gR (i:Nat)(p:zQ):Int:=if p.2.1=i∧p.2.2.2.2.1≠3 then p.2.2.2.1 else 0
def vX (r s:Int):Int:=if s≥r then 0 else r-s
theorem yPm {r s t}(hs:0≤s)(ht:0≤t):vX (vX r s) t=vX r (s+t):=by
 unfold vX;omega
theorem Hc {r}(hr:0≤r):vX r 0=r:=by
 unfold vX;omega
theorem yH2 {r s}:0≤vX r s:=by
 unfold vX;omega
theorem yKo {r s}(hr:0≤r)(hs:0≤s):vX r s≤r:=by
 unfold vX;omega
section
variable {n:Nat} {p:zQ}
theorem yNm (h:jV n p) i:-1099511627776≤gB i p∧gB i p≤1099511627776:=by
 have h1:=h.a1;have h2:=h.a2;unfold gB;omega
theorem RN (h:jV n p) i j:0≤gS i j p∧gS i j p≤1099511627776:=by
 have h1:=h.a1;have h2:=h.a2;unfold gS;omega
theorem Hd (h:jV n p) i:0≤gR i p∧gR i p≤1099511627776:=by
 have h1:=h.a1;have h2:=h.a2;unfold gR;omega
end
def wA (n:Nat)(l:List zQ):Prop:=(∀p∈l,jV n p)∧l.length≤64
theorem yBi {n l}(h:wA n l) i:-70368744177664≤zP (gB i) l∧zP (gB i) l≤70368744177664:=by
 have h1:=rS (g:=gB i) (A:=1099511627776) fun p hp=>yNm (h.1 p hp) i
 have h2:=h.2;omega
theorem oN {n l}(h:wA n l) i j:0≤zP (gS i j) l∧zP (gS i j) l≤70368744177664:=by
 have h1:=rS (g:=gS i j) (A:=1099511627776) fun p hp=>by have:=RN (h.1 p hp) i j;omega
 have h0:=A6 (g:=gS i j) fun p hp=>(RN (h.1 p hp) i j).1
 have h2:=h.2;omega
theorem Bm {n l}(h:wA n l) i:0≤zP (gR i) l∧zP (gR i) l≤70368744177664:=by
 have h1:=rS (g:=gR i) (A:=1099511627776) fun p hp=>by have:=Hd (h.1 p hp) i;omega
 have h0:=A6 (g:=gR i) fun p hp=>(Hd (h.1 p hp) i).1
 have h2:=h.2;omega
theorem wA.take {n l}(h:wA n l) i:wA n (l.take i):=⟨fun p hp=>h.1 p (by grind),by rw[List.length_take];have:=h.2;omega⟩
structure oO (n:Nat) (a:List yF) (p:EQ) (l:List zQ) (a':List yF) (p':EQ):Prop where
 al:a'.length=n
 acct:∀i,i<n→a'.getD i ad=((a.getD i ad).1+zP (gB i) l,(a.getD i ad).2.1,vX (a.getD i ad).2.2 (zP (gR i) l))
 pl:p'.length=n
 pr:∀i,i<n→(p'.getD i []).length=n
 cell:∀i,i<n→∀j,j<n→cell p' i j=cell p i j+zP (gS i j) l-zP (gS j i) l
theorem yCt {n p q}(hp:p.length=n)(hq:q.length=n)(ie:∀i,i<n→(p.getD i []).length=n)(hqr:∀i,i<n→(q.getD i []).length=n)(h:∀i,i<n→∀j,j<n→cell p i j=cell q i j):p=q:=
 GR [] (by omega) fun i hi=>GR 0 (by simp_all) fun j hj=>h i (by omega) j (by simp_all)
theorem oO.same {n a a1 a2 p p1 p2 l}(x:oO n a p l a1 p1)(y:oO n a p l a2 p2):a1=a2∧p1=p2:=
 ⟨GR ad (by rw[x.al,y.al]) fun i hi=>by have:=x.al;rw[x.acct i (by omega),y.acct i (by omega)],
  yCt x.pl y.pl x.pr y.pr fun i hi j hj=>by rw[x.cell i hi j hj,y.cell i hi j hj]⟩
structure Bn (n:Nat) (a:List yF) (p:EQ):Prop where
 al:a.length=n
 pl:p.length=n
 pr:∀i,i<n→(p.getD i []).length=n
 bal:∀i,i<n→-4611686018427387904<(a.getD i ad).1∧(a.getD i ad).1<4611686018427387904
 res:∀i,i<n→0≤(a.getD i ad).2.2∧(a.getD i ad).2.2≤2305843009213693952
 net:∀i,i<n→∀j,j<n→-72057594037927936<cell p i j∧cell p i j<72057594037927936
theorem mm.nums {a b m p}(h:mm a b m p):Bn a.length a p where
 al:=rfl
 pl:=h.pl
 pr:=h.pr
 bal:=fun i hi=>by
  have:=h.acct i hi;show-4611686018427387904<(a.getD i (0,0,0)).1∧(a.getD i (0,0,0)).1<4611686018427387904;simp only[jG,cY,jm] at this;omega
 res:=fun i hi=>by
  have:=h.acct i hi;show 0≤(a.getD i (0,0,0)).2.2∧(a.getD i (0,0,0)).2.2≤2305843009213693952;simp only[jG,cY,jm] at this;omega
 net:=fun i hi j hj=>by
  have:=h.net i hi j hj;simp[wR] at this;omega
theorem He {m f t i j x}(hf:f<m.length)(ht:t<(m.getD f []).length):cell (m.set f ((m.getD f []).set t x)) i j=if i=f∧j=t then x else cell m i j:=by
 unfold cell;grind
theorem Hf {n}{m:EQ}{f t x}(hm:m.length=n)(hr:∀i,i<n→(m.getD i []).length=n)(hf:f<n):∀i,i<n→((m.set f ((m.getD f []).set t x)).getD i []).length=n:=by
 grind
def ss (p:zQ)(r:List yF):List yF:=
 let y0:=r.set p.2.1.toNat (zA ((r.getD p.2.1.toNat ad).1-p.2.2.2.1),(r.getD p.2.1.toNat ad).2);let y1:=y0.set p.2.2.1.toNat (zA ((y0.getD p.2.2.1.toNat ad).1+p.2.2.2.1),(y0.getD p.2.2.1.toNat ad).2)
 bif !decide (p.2.2.2.2.1=3) then y1.set p.2.1.toNat ((y1.getD p.2.1.toNat ad).1,((y1.getD p.2.1.toNat ad).2.1,AH false (zA ((y1.getD p.2.1.toNat ad).2.2-p.2.2.2.1)) 0)) else y1
def su (p:zQ)(m:EQ):EQ:=
 let y3:=m.set p.2.1.toNat ((m.getD p.2.1.toNat []).set p.2.2.1.toNat (zA ((m.getD p.2.1.toNat []).getD p.2.2.1.toNat 0+p.2.2.2.1)))
 y3.set p.2.2.1.toNat ((y3.getD p.2.2.1.toNat []).set p.2.1.toNat (zA ((y3.getD p.2.2.1.toNat []).getD p.2.1.toNat 0-p.2.2.2.1)))
theorem yMu p r:(ss p r).length=r.length:=by
 unfold ss;grind
theorem yEs {n p}(h:jV n p){r}(hr:r.length=n){i}(hi:i<n)(hb:∀i,i<n→-4611826755915743232<(r.getD i ad).1∧(r.getD i ad).1<4611826755915743232)
  (hz:∀i,i<n→0≤(r.getD i ad).2.2∧(r.getD i ad).2.2≤2305843009213693952):(ss p r).getD i ad=((r.getD i ad).1+gB i p,(r.getD i ad).2.1,vX (r.getD i ad).2.2 (gR i p)):=by
 obtain⟨f0,f1,t0,t1,ne,a1,a2,c1,c3⟩:=h;obtain⟨f,hf⟩:∃f:Nat,p.2.1=f:=⟨p.2.1.toNat,by omega⟩;obtain⟨t,ht⟩:∃t:Nat,p.2.2.1=t:=⟨p.2.2.1.toNat,by omega⟩;have RO:f≠t:=by omega
 have gl:f<n:=by omega
 have gm:t<n:=by omega
 have bf:=hb f gl;have bt:=hb t gm;have zf:=hz f gl;have e1:(r.set f (zA ((r.getD f ad).1-p.2.2.2.1),(r.getD f ad).2)).getD t ad=r.getD t ad:=by rw[fJ,if_neg (fun e=>RO e.1)]
 have key:∀j,j<n→((r.set f (zA ((r.getD f ad).1-p.2.2.2.1),(r.getD f ad).2)).set t (zA ((r.getD t ad).1+p.2.2.2.1),(r.getD t ad).2)).getD j ad=((r.getD j ad).1+gB j p,(r.getD j ad).2):=by
  intro j hj;unfold gB;rw[hf,ht,fJ];by_cases RP:t=j
  ·subst RP;rw[if_pos (by grind),if_pos rfl,if_neg (by omega),zR (by omega) (by omega)];simp
  ·rw[if_neg (fun e=>RP e.1),if_neg (by omega),fJ];by_cases RQ:f=j
   ·subst RQ;rw[if_pos ⟨rfl,by omega⟩,if_pos rfl,zR (by omega) (by omega)];simp only[Int.zero_sub];rfl
   ·rw[if_neg (fun e=>RQ e.1),if_neg (by omega)];simp
 unfold ss;simp only[hf,ht,bh,e1];unfold gR;cases hc:decide (p.2.2.2.2.1=3) with
 |true=>
  have dY:p.2.2.2.2.1=3:=by simpa using hc
  simp only[bX,aU];rw[key i hi,if_neg (fun e=>e.2 dY),Hc (hz i hi).1]
 |false=>
  have dY:p.2.2.2.2.1≠3:=by simpa using hc
  simp only[fI,aY];rw[fJ];by_cases RR:f=i
  ·subst RR;rw[if_pos (by grind),key f gl,if_pos ⟨hf,dY⟩];have:AH false (zA ((r.getD f ad).2.2-p.2.2.2.1)) 0=vX (r.getD f ad).2.2 p.2.2.2.1:=by
    rw[zR (by omega) (by omega)];unfold AH vX;grind
   rw[this]
  ·rw[if_neg (fun e=>RR e.1),key i hi,if_neg (by omega),Hc (hz i hi).1]
theorem yHt {n:Nat}{p:zQ}(h:jV n p){m:EQ}(hm:m.length=n)(hr:∀i,i<n→(m.getD i []).length=n)(hb:∀i,i<n→∀j,j<n→-72128000000000000<cell m i j∧cell m i j<72128000000000000):
  (su p m).length=n∧(∀i,i<n→((su p m).getD i []).length=n)∧∀i,i<n→∀j,j<n→cell (su p m) i j=cell m i j+gS i j p-gS j i p:=by
 obtain⟨f0,f1,t0,t1,ne,a1,a2,c1,c3⟩:=h;obtain⟨f,hf⟩:∃f:Nat,p.2.1=f:=⟨p.2.1.toNat,by omega⟩;obtain⟨t,ht⟩:∃t:Nat,p.2.2.1=t:=⟨p.2.2.1.toNat,by omega⟩;have RO:f≠t:=by omega
 have gl:f<n:=by omega
 have gm:t<n:=by omega
 unfold su;simp only[hf,ht,bh];have r1:=Hf (x:=zA ((m.getD f []).getD t 0+p.2.2.2.1)) (t:=t) hm hr gl;have c1:∀i j,cell (m.set f ((m.getD f []).set t (zA ((m.getD f []).getD t 0+p.2.2.2.1)))) i j=if i=f∧j=t then zA (cell m f t+p.2.2.2.1) else cell m i j:=fun i j=>He (by omega) (by rw[hr f gl];omega)
 refine⟨by simp only[List.length_set];exact hm,by grind,fun i hi j hj=>?_⟩;rw[He (by rw[List.length_set];omega) (by rw[r1 t gm];omega)];have e2:((m.set f ((m.getD f []).set t (zA ((m.getD f []).getD t 0+p.2.2.2.1)))).getD t []).getD f 0=cell m t f:=by
  show cell _ t f=_;simp_all
 rw[e2,c1];unfold gS;rw[hf,ht];have b1:=hb f gl t gm;have b2:=hb t gm f gl;by_cases h1:i=t∧j=f
 ·obtain⟨rfl,rfl⟩:=h1;rw[if_pos ⟨rfl,rfl⟩,if_neg (by omega),if_pos ⟨rfl,rfl⟩,zR (by omega) (by omega)];omega
 ·rw[if_neg h1];by_cases h2:i=f∧j=t
  ·obtain⟨rfl,rfl⟩:=h2;rw[if_pos ⟨rfl,rfl⟩,if_pos ⟨rfl,rfl⟩,if_neg (by omega),zR (by omega) (by omega)];omega
  omega
theorem yQ4 {k n a b m p l}(hk:l.length<k)(hx:Bn n a p)(hl:wA n l)(b0:List yF) b1 b2 b3:
  ∃a' p',sv k k l l.length 0 b0 b1 b2 b3 a b m p=some (b0,b1,b2,b3,a',b,m,p')∧oO n a p l a' p':=by
 have := hZ (L := fun c i (s : List yF × EQ) => sv k c l l.length i b0 b1 b2 b3 s.1 b m s.2) (N := l.length) (fun s => (b0, b1, b2, b3, s.1, b, m, s.2)) (fun i s => oO n a p (l.take i) s.1 s.2) (fun c s hs=>by
   show sw k _ l l.length l.length b0 b1 b2 b3 s.1 b m s.2=_;unfold sw;simp) (fun c i s hi hs=>by
   refine⟨(ss (l.getD i pd) s.1,su (l.getD i pd) s.2),?_,?_⟩
   ·show sw k _ l l.length i b0 b1 b2 b3 s.1 b m s.2=_;have ij:jV n (l.getD i pd):=hl.1 _ (oL hi);unfold sw ss su;have w8:=hl.2;simp only[qG,qW hi (by grind),yW,bh,ai hi,aY];obtain⟨f0,f1,t0,t1,ne,a1,a2,c1,c3⟩:=ij;obtain⟨f,hf⟩:∃f:Nat,(l.getD i pd).2.1=f:=⟨(l.getD i pd).2.1.toNat,by omega⟩;obtain⟨t,ht⟩:∃t:Nat,(l.getD i pd).2.2.1=t:=⟨(l.getD i pd).2.2.1.toNat,by omega⟩;have gl:f<n:=by omega
    have gm:t<n:=by omega
    have r1:=Hf (x:=zA ((s.2.getD f []).getD t 0+(l.getD i pd).2.2.2.1)) (t:=t) hs.pl hs.pr gl;simp only[hf,ht,bh,qG,hs.al,hs.pl,List.length_set,hs.pr f gl,r1 t gm,ai gl,ai gm,aY,sx,aG];grind
   ·have ij:jV n (l.getD i pd):=hl.1 _ (oL hi);have aO:=hl.take i;have hp := yHt ij hs.pl hs.pr (fun i' bU j' kp=>by
     rw[hs.cell i' bU j' kp];have h1:=hx.net i' bU j' kp;have h2:=oN aO i' j';have h3:=oN aO j' i';omega)
    refine⟨by rw[yMu];exact hs.al,fun i' bU=>?_,hp.1,hp.2.1,fun i' bU j' kp=>?_⟩
    ·rw [yEs ij hs.al bU (fun j hj=>by
       rw[hs.acct j hj];have h1:=hx.bal j hj;have h2:=yBi aO j;dsimp only;omega) (fun j hj=>by
       rw[hs.acct j hj];have h1:=hx.res j hj;have h2:=Bm aO j;dsimp only;exact⟨yH2,Int.le_trans (yKo h1.1 h2.1) h1.2⟩),hs.acct i' bU,←kU l i pd hi,gk,gk]
     dsimp only[zP];rw[yPm (Bm aO i').1 (Hd ij i').1,Int.add_zero,Int.add_zero,Int.add_assoc]
    ·rw[hp.2.2 i' bU j' kp,hs.cell i' bU j' kp,←kU l i pd hi,gk,gk];dsimp only[zP];omega) (s:=(a,p)) hk ⟨hx.al,fun i hi=>by
      rw[List.take_zero];show a.getD i ad=((a.getD i ad).1+0,(a.getD i ad).2.1,vX (a.getD i ad).2.2 0);rw[Hc (hx.res i hi).1,Int.add_zero],hx.pl,hx.pr,fun i hi j hj=>by
      rw[List.take_zero];show cell p i j=cell p i j+0-0;omega⟩
 simp_all
theorem RT {k n l}(hk:l.length<k)(hl:wA n l)(i j:Nat):Bo k l i j=some (zP (gS i j) l):=by
 have w8:=hl.2;obtain ⟨s, h1, h2⟩ := hZ (L := fun c x (s : Int) => Hg k c l i j s x) (N := l.length) (fun s => s) (fun x s => s = zP (gS i j) (l.take x)) (fun c s hs=>by
   show w9 k _ l i j s l.length=_;unfold w9;simp) (fun c x s hx hs=>by
   refine⟨zP (gS i j) (l.take (x+1)),?_,rfl⟩;show w9 k _ l i j s x=_;have hb:=oN (hl.take x) i j;have hm:jV n (l.getD x pd):=hl.1 _ (by grind);have e:zP (gS i j) (l.take (x+1))=s+gS i j (l.getD x pd):=by
    rw[←kU l x pd hx,gk,hs];show _+(_+0)=_;omega
   have w:=zR (x:=s+(l.getD x pd).2.2.2.1) (by have:=hm.a1;omega) (by have:=hm.a2;omega);unfold w9;simp[qG,qW hx (by grind)];rw[e];unfold gS;grind) (s:=0) hk rfl
 unfold Bo;simp_all
theorem yDn {k n l}(hk:l.length<k)(hl:wA n l)(i j:Nat):Hh k l i j=some (zP (gS i j) l-zP (gS j i) l):=by
 unfold Hh;rw[RT hk hl i j,RT hk hl j i];have h1:=oN hl i j;have h2:=oN hl j i;simp;rw[zR (by omega) (by omega)]
def gN (i:Nat)(p:zQ):Int:=if p.2.1=i∧p.2.2.2.2.1=3 then p.2.2.2.1 else 0
theorem RU {n p}(h:jV n p) i:0≤gN i p∧gN i p≤1099511627776:=by
 have h1:=h.a1;have h2:=h.a2;unfold gN;omega
theorem yB0 {n l}(h:wA n l) i:0≤zP (gN i) l∧zP (gN i) l≤70368744177664:=by
 have h1:=rS (g:=gN i) (A:=1099511627776) fun p hp=>by have:=RU (h.1 p hp) i;omega
 have h0:=A6 (g:=gN i) fun p hp=>(RU (h.1 p hp) i).1
 have h2:=h.2;omega
theorem yEe {k n:Nat}{l}(hk:l.length<k)(hl:wA n l)(i:Nat):Hi k l i=some (zP (gN i) l,zP (gR i) l):=by
 have w8:=hl.2;obtain ⟨s, h1, h2⟩ := hZ (L := fun c x (s : Int × Int) => Hj k c l i s.1 s.2 x) (N := l.length) (fun s => s) (fun x s => s = (zP (gN i) (l.take x), zP (gR i) (l.take x))) (fun c s hs=>by
   show xa k _ l i s.1 s.2 l.length=_;unfold xa;simp) (fun c x s hx hs=>by
   refine⟨(zP (gN i) (l.take (x+1)),zP (gR i) (l.take (x+1))),?_,rfl⟩;show xa k _ l i s.1 s.2 x=_;have hb:=yB0 (hl.take x) i;have bn:=Bm (hl.take x) i;have hm:jV n (l.getD x pd):=hl.1 _ (by grind);have e:zP (gN i) (l.take (x+1))=s.1+gN i (l.getD x pd):=by
    rw[←kU l x pd hx,gk,hs];show _+(_+0)=_;omega
   have e':zP (gR i) (l.take (x+1))=s.2+gR i (l.getD x pd):=by
    rw[←kU l x pd hx,gk,hs];show _+(_+0)=_;omega
   have w:=zR (x:=s.1+(l.getD x pd).2.2.2.1) (by have:=hm.a1;grind) (by have:=hm.a2;grind);have w':=zR (x:=s.2+(l.getD x pd).2.2.2.1) (by have:=hm.a1;rw[hs];omega) (by have:=hm.a2;grind);unfold xa;simp only[qG,qW hx (by grind),yW,aY];rw[e,e'];unfold gN gR;grind) (s:=(0,0)) hk rfl
 unfold Hi;simp_all
theorem yH8 {k n l}(hk:l.length<k)(hl:wA n l)(i:Nat):Hk k l i=some (zP (gR i) l):=by
 unfold Hk;rw[yEe hk hl i];rfl
theorem yS2 k b c r s (h:-9223372036854775808≤r-s)(h':r<9223372036854775808)(hs:0≤s):Hl k b c r s=some (vX r s):=by
 unfold Hl vX;by_cases e:s≥r
 ·simp_all
 ·rw[an e,if_neg e,zR h (by omega)];rfl
theorem yLt {n l}(hl:∀p∈l,jV n p) i (hi:i<n):qF (fun j=>zP (gS i j) l-zP (gS j i) l) n= -zP (gB i) l:=by
 have e1:qF (fun j=>zP (gS i j) l-zP (gS j i) l) n=qF (fun j=>zP (fun p=>gS i j p-gS j i p) l) n:=wg fun j _=>(GO _ _ l).symm
 rw[e1,GQ (fun j p=>gS i j p-gS j i p)];have e2:∀p∈l,qF (fun j=>gS i j p-gS j i p) n=0-gB i p:=by
  intro p hp;obtain⟨f0,f1,t0,t1,ne,a1,a2,c1,c3⟩:=hl p hp;obtain⟨f,hf⟩:∃f:Nat,p.2.1=f:=⟨p.2.1.toNat,by omega⟩;obtain⟨t,ht⟩:∃t:Nat,p.2.2.1=t:=⟨p.2.2.1.toNat,by omega⟩;have g1:∀j,gS i j p-gS j i p=(if j=t then(if f=i then p.2.2.2.1 else 0) else 0)+(if j=f then(if t=i then-p.2.2.2.1 else 0) else 0):=by
   unfold gS;omega
  rw[wg fun j _=>g1 j,we,wh,wh];unfold gB;omega
 rw[GP e2,GO];have:zP (fun _:zQ=>(0:Int)) l=0:=by
  clear e1 e2 hl
  induction l with
  |nil=>rfl
  |cons p l ih=>show 0+zP _ l=0;omega
 omega
structure yI7 (n:Nat) (a:List yF) (p:EQ) (l:List zQ) (i:Nat) (a':List yF) (p':EQ):Prop where
 al:a'.length=n
 done:∀x,x<n→x<i→a'.getD x ad=((a.getD x ad).1+zP (gB x) l,(a.getD x ad).2.1,vX (a.getD x ad).2.2 (zP (gR x) l))
 rest:∀x,x<n→¬x<i→a'.getD x ad=a.getD x ad
 pl:p'.length=n
 pr:∀x,x<n→(p'.getD x []).length=n
 cell:∀x,x<n→∀y,y<n→cell p' x y=if x<i then cell p x y+zP (gS x y) l-zP (gS y x) l else cell p x y
structure Hm (n:Nat) (a:List yF) (p:EQ) (l:List zQ) (i j:Nat) (a':List yF) (p':EQ):Prop where
 al:a'.length=n
 done:∀x,x<n→x<i→a'.getD x ad=((a.getD x ad).1+zP (gB x) l,(a.getD x ad).2.1,vX (a.getD x ad).2.2 (zP (gR x) l))
 here:a'.getD i ad=((a.getD i ad).1-qF (fun j=>zP (gS i j) l-zP (gS j i) l) j,(a.getD i ad).2.1,vX (a.getD i ad).2.2 (zP (gR i) l))
 rest:∀x,x<n→i<x→a'.getD x ad=a.getD x ad
 pl:p'.length=n
 pr:∀x,x<n→(p'.getD x []).length=n
 cell:∀x,x<n→∀y,y<n→cell p' x y=if x<i∨(x=i∧y<j) then cell p x y+zP (gS x y) l-zP (gS y x) l else cell p x y
theorem yIg {k n a p l}(hk:n<k)(fa:l.length<k)(hn:n≤1000)(hx:Bn n a p)(hl:wA n l){i}(hi:i<n)(b0:List yF) b1 b2 b3 b m
  {a0 p0} (h0:Hm n a p l i 0 a0 p0):∃a' p',Bp k k l i 0 b0 b1 b2 b3 a0 b m p0=some (l,(i:Int),b0,b1,b2,b3,a',b,m,p')∧Hm n a p l i n a' p':=by
 obtain ⟨s, h1, h2⟩ := hZ (L := fun c j (s : List yF × EQ) => Bp k c l i j b0 b1 b2 b3 s.1 b m s.2) (N := n) (fun s => (l, (i : Int), b0, b1, b2, b3, s.1, b, m, s.2)) (fun j s => Hm n a p l i j s.1 s.2) (fun c s hs=>by
   show xc k _ l i n b0 b1 b2 b3 s.1 b m s.2=_;unfold xc;simp only [yW, hs.al, an (Nat.lt_irrefl _), aU]) (fun c j s hj hs=>by
   refine⟨(s.1.set i (zA ((s.1.getD i ad).1-(zP (gS i j) l-zP (gS j i) l)),(s.1.getD i ad).2),s.2.set i ((s.2.getD i []).set j (zA ((s.2.getD i []).getD j 0+(zP (gS i j) l-zP (gS j i) l))))),?_,?_⟩
   ·show xc k _ l i j b0 b1 b2 b3 s.1 b m s.2=_;unfold xc;simp only[qG,qW hj (by grind),yW,bh,hs.al,hs.pl,hs.pr i hi,ai hi,ai hj,aY,yDn fa hl,aG]
   ·have hb:=hx.bal i hi;have hg:∀j,-70368744177664≤zP (gS i j) l-zP (gS j i) l∧zP (gS i j) l-zP (gS j i) l≤70368744177664:=fun j=>by
     have h1:=oN hl i j;have h2:=oN hl j i;omega
    have Ah:=Rw hg j;have Q3:=hg j;have aai:=hx.net i hi j hj;have hc:=hs.cell i hi j hj;rw[if_neg (by omega)] at hc;refine⟨by simp only[List.length_set];exact hs.al,fun x du mn=>?_,?_,fun x du mn=>?_,by simp only[List.length_set];exact hs.pl,Hf hs.pl hs.pr hi,fun x du y xd=>?_⟩
    ·rw[fJ,if_neg (by grind)];exact hs.done x du mn
    ·rw[fJ,if_pos ⟨rfl,by rw[hs.al];exact hi⟩,hs.here];dsimp only;rw[zR (by omega) (by omega)];show(_,_)=((a.getD i ad).1-(qF _ j+_),_);grind
    ·rw[fJ,if_neg (by grind)];exact hs.rest x du mn
    ·have e:(s.2.getD i []).getD j 0=cell p i j:=hc;rw[He (by rw[hs.pl];exact hi) (by rw[hs.pr i hi];exact hj),e];by_cases Bq:x=i∧y=j
     ·obtain⟨rfl,rfl⟩:=Bq;rw[if_pos ⟨rfl,rfl⟩,if_pos (by omega),zR (by omega) (by omega)];omega
     ·rw[if_neg Bq,hs.cell x du y xd];omega) (s:=(a0,p0)) hk h0
 grind
theorem yCq {k n a b m p l}(hk:n<k)(fa:l.length<k)(hn:n≤1000)(hx:Bn n a p)(hl:wA n l)(b0:List yF) b1 b2 b3:
  ∃a' p',Br k k l 0 b0 b1 b2 b3 a b m p=some (b0,b1,b2,b3,a',b,m,p')∧oO n a p l a' p':=by
 obtain ⟨s, h1, h2⟩ := hZ (L := fun c i (s : List yF × EQ) => Br k c l i b0 b1 b2 b3 s.1 b m s.2) (N := n) (fun s => (b0, b1, b2, b3, s.1, b, m, s.2)) (fun i s => yI7 n a p l i s.1 s.2) (fun c s hs=>by
   show xe k _ l n b0 b1 b2 b3 s.1 b m s.2=_;unfold xe;simp only [yW, hs.al, an (Nat.lt_irrefl _), aU]) (fun c i s hi hs=>by
   have hai:=hs.rest i hi (by simp);have hr:=hx.res i hi;have hsp:=Bm hl i;obtain⟨a',p',h1,h2⟩:=yIg (a0:=s.1.set i ((s.1.getD i ad).1,((s.1.getD i ad).2.1,vX (s.1.getD i ad).2.2 (zP (gR i) l)))) (p0:=s.2) hk fa hn hx hl hi b0 b1 b2 b3 b m ⟨by rw[List.length_set];exact hs.al,fun x du mn=>by
     rw[fJ,if_neg (by grind)];exact hs.done x du mn,by
     rw[fJ,if_pos ⟨rfl,by rw[hs.al];exact hi⟩,hai];show _=((a.getD i ad).1-0,_,_);simp,fun x du mn=>by
     rw[fJ,if_neg (by grind)];exact hs.rest x du (by omega),hs.pl,hs.pr,fun x du y xd=>by
     rw[hs.cell x du y xd];omega⟩
   refine⟨(a',p'),?_,?_⟩
   ·show xe k _ l i b0 b1 b2 b3 s.1 b m s.2=_;unfold xe;have hK:=yS2 k (s.1.getD i ad).1 (s.1.getD i ad).2.1 (s.1.getD i ad).2.2 (zP (gR i) l) (by grind) (by grind) hsp.1;simp only[qG,yW,bh,hs.al,ai hi,aY,yH8 fa hl,aG];rw[hK];simp only[aG];rw[h1];simp only[aG,qW hi (by grind)]
   ·refine⟨h2.al,fun x du mn=>?_,fun x du mn=>h2.rest x du (by omega),h2.pl,h2.pr,fun x du y xd=>?_⟩
    ·by_cases h:x<i
     ·exact h2.done x du h
     ·have:x=i:=by omega
      subst this;rw[h2.here,yLt hl.1 x du];simp
    ·rw[h2.cell x du y xd];omega) (s:=(a,p)) hk ⟨hx.al,by simp,by simp,hx.pl,hx.pr,by simp⟩
 exact⟨s.1,s.2,h1,h2.al,fun i hi=>h2.done i hi hi,h2.pl,h2.pr,fun i hi j hj=>by rw[h2.cell i hi j hj,if_pos hi]⟩
def kW (a:List yF)(b:EQ)(m:AC)(p:EQ)(l:List zQ)(r:List yF×EQ×AC×EQ×Int):Prop:=
 (wA a.length l→∃a' p',oO a.length a p l a' p'∧r=(bif eL a' b m p' then(a',b,m,p',0) else(a,b,m,p,8)))∧(¬wA a.length l→r=(a,b,m,p,1))
theorem yKm {k}(hk:100<k){a b m p}{l:List zQ}(h:mm a b m p)(hl:l.length≤80):∃r,mo k a b m p l=some r∧kW a b m p l r:=by
 unfold mo kW;have e:decide (((l.length:Nat):Int)>64)=decide (¬l.length≤64):=by
  grind
 rw[e];by_cases ik:l.length≤64
 case neg=>
  rw[ai ik];exact⟨_,rfl,fun e=>absurd e.2 ik,by simp⟩
 rw[an (by omega),yO8 (by omega) (by omega)];cases hm:kV a.length l with
 |false=>
  refine⟨_,rfl,fun e=>?_,by simp⟩;rw[Bk.2 e.1] at hm;cases hm
 |true=>
  have aO:wA a.length l:=⟨Bk.1 hm,ik⟩;simp only[yEh (show 10<k by omega) h.toSized,aG];obtain⟨a',p',h1,h2⟩:=yQ4 (b:=b) (m:=m) (show l.length<k by omega) h.nums aO a b m p;rw[h1];simp only[aG,RF (show 10<k by omega)];cases hB:eL a' b m p' with
  |true=>exact⟨_,rfl,by grind,by grind⟩
  |false=>exact⟨_,rfl,by grind,by grind⟩
theorem yOd {k}(hk:100<k){a b m p}{l:List zQ}(h:mm a b m p)(hl:l.length≤80):∃r,Hn k a b m p l=some r∧kW a b m p l r:=by
 unfold Hn kW;rw[yBe (by omega) (by omega)];cases hm:kV a.length l with
 |false=>
  refine⟨_,rfl,fun e=>?_,by simp⟩;rw[Bk.2 e.1] at hm;cases hm
 |true=>
  by_cases ik:l.length≤64
  case neg=>
   rw[an ik];exact⟨_,rfl,fun e=>absurd e.2 ik,by simp⟩
  have aO:wA a.length l:=⟨Bk.1 hm,ik⟩;have h6:=h.n6;rw[ai ik];simp only[yBu (show 10<k by omega) h.toSized,aG];obtain⟨a',p',h1,h2⟩:=yCq (b:=b) (m:=m) (show a.length<k by omega) (by grind) (by omega) h.nums aO a b m p;rw[h1];simp only[aG,RD (show 10<k by omega)];cases hB:eL a' b m p' with
  |true=>exact⟨_,rfl,by grind,by grind⟩
  |false=>exact⟨_,rfl,by grind,by grind⟩
theorem kW.same {a b m p l r r'}(h:kW a b m p l r)(h':kW a b m p l r'):r=r':=by
 by_cases c:wA a.length l
 ·obtain⟨a1,p1,x,rfl⟩:=h.1 c;obtain⟨a2,p2,y,rfl⟩:=h'.1 c;obtain⟨rfl,rfl⟩:=x.same y;rfl
 ·rw[h.2 c,h'.2 c]
theorem RV {a b m p l r}(hb:mm a b m p)(h:kW a b m p l r):
  qF (fun i=>(r.1.getD i ad).1) a.length=qF (fun i=>(a.getD i ad).1) a.length∧mm r.1 r.2.1 r.2.2.1 r.2.2.2.1∧(r.2.2.2.2=0∨(r.1=a∧r.2.1=b∧r.2.2.1=m∧r.2.2.2.1=p)):=by
 by_cases c:wA a.length l
 ·obtain⟨a',p',x,e⟩:=h.1 c;cases hi:eL a' b m p' with
  |false=>
   simp_all
  |true=>
   rw[hi] at e;subst e;refine⟨?_,Bi.1 hi,.inl rfl⟩;have e1:qF (fun i=>(a'.getD i ad).1) a.length=qF (fun i=>(a.getD i ad).1+zP (gB i) l) a.length:=wg fun j hj=>by rw[x.acct j hj]
   show qF (fun i=>(a'.getD i ad).1) a.length=_;rw[e1,we,GQ];have e2:zP (fun p=>qF (fun j=>gB j p) a.length) l=zP (fun _=>(0:Int)) l:=GP fun p hp=>by
    obtain⟨f0,f1,t0,t1,ne,a1,a2,c1,c3⟩:=c.1 p hp;obtain⟨f,hf⟩:∃f:Nat,p.2.1=f:=⟨p.2.1.toNat,by omega⟩;obtain⟨t,ht⟩:∃t:Nat,p.2.2.1=t:=⟨p.2.2.1.toNat,by omega⟩;have g1:∀j,gB j p=(if j=t then p.2.2.2.1 else 0)+(if j=f then-p.2.2.2.1 else 0):=by
     unfold gB;omega
    rw[wg fun j _=>g1 j,we,wh,wh,if_pos (by omega),if_pos (by omega)];omega
   have e3:∀l:List zQ,zP (fun _:zQ=>(0:Int)) l=0:=by
    intro l
    induction l with
    |nil=>rfl
    |cons p l ih=>show 0+zP _ l=0;omega
   simp_all
 ·have e:=h.2 c;simp_all
theorem RW {S X:Type}{L:Nat→Int→S→Option X}{N} ok (e:S→X) b (inv:Nat→S→Prop)(bD:∀n s,inv N s→L (n+1) (N:Int) s=some (e s))
  (aA:∀n i s,i<N→inv i s→(ok i=true→∃s',L (n+1) (i:Int) s=L n ((i+1:Nat):Int) s'∧inv (i+1) s')∧(ok i=false→L (n+1) (i:Int) s=some b)):
  ∀c i n s,i+c=N→c<n→inv i s→(zU ok c i=true∧∃s',L n (i:Int) s=some (e s')∧inv N s')∨(zU ok c i=false∧L n (i:Int) s=some b)
 |0,i,n,s,h,hn,hs=>by
  obtain⟨n,rfl⟩:∃m,n=m+1:=⟨n-1,by omega⟩;have:i=N:=by omega
  subst this;exact .inl ⟨rfl,s,bD n s hs,hs⟩
 |c+1,i,n,s,h,hn,hs=>by
  obtain⟨n,rfl⟩:∃m,n=m+1:=⟨n-1,by omega⟩;obtain⟨h1,h2⟩:=aA n i s (by omega) hs;unfold zU;cases ho:ok i with
  |true=>
   obtain⟨s',h3,h4⟩:=h1 ho;rw[h3];exact RW ok e b inv bD aA c (i+1) n s' (by omega) (by omega) h4
  |false=>simp_all
def dS (l:List zQ)(i j:Nat):Int:=zP (gS i j) l-zP (gS j i) l
def yCm (b p:EQ)(l:List zQ)(i j:Nat):Bool:= !(decide (zP (gS i j) l>0)&&(!decide (cell b i j= -1)&&decide (cell p i j+dS l i j>cell b i j)))
def Bt (a:List yF)(b:EQ)(m:AC)(p:EQ)(l:List zQ)(i:Nat):Bool:=
 !decide (zP (gN i) l + zP (gR i) l = 0) && (!zU (yCm b p l i) a.length 0 || (decide ((a.getD i ad).1+(a.getD i ad).2.1+zP (gB i) l<0)||
  ((decide (zP (gN i) l>0)&&decide ((a.getD i ad).1+(a.getD i ad).2.1+zP (gB i) l<vX (a.getD i ad).2.2 (zP (gR i) l)))||
   (!decide (m.getD i 0= -1)&&decide (qF (cell p i) a.length-zP (gB i) l>m.getD i 0)))))
def yGq (a:List yF)(b:EQ)(m:AC)(p:EQ)(l:List zQ):Bool:=(kV a.length l&&decide (l.length≤64))&&zU (fun i=> !Bt a b m p l i) a.length 0
def RX (a:List yF)(b:EQ)(m:AC)(p:EQ)(l:List zQ):AC:=((List.range a.length).filter fun i=>Bt a b m p l i).map fun(i:Nat)=>(i:Int)
structure yTt (n:Nat) (l:List zQ) (r2 r3:AC) (m4:EQ):Prop where
 l2:r2.length=n
 l3:r3.length=n
 l4:m4.length=n
 r4:∀i,i<n→(m4.getD i []).length=n
 more:∀i,i<n→r2.getD i 0=zP (gB i) l
 RY:∀i,i<n→r3.getD i 0=zP (gR i) l
 aaj:∀i,i<n→∀j,j<n→cell m4 i j=dS l i j
def vC (l:List zQ):Prop:=List.Pairwise (fun p q=>p.1≠q.1) l
theorem vC.filter {l}(h:vC l) f:vC (l.filter f):=List.Pairwise.filter f h
def RZ (t:Int)(p:zQ):Bool:=bif decide (t≥p.2.2.2.2.2.1) then decide (t≤p.2.2.2.2.2.2) else false
def Bu (f:Int)(p:zQ):Bool:=decide (p.2.1=f)
def yMj (r:List zQ)(p:zQ):Bool:=zU (fun x=>decide (((r.filter (Bu p.2.1)).getD x pd).2.2.2.2.1=3)) (r.filter (Bu p.2.1)).length 0
def yOu (r:List zQ)(p:zQ):Bool:=decide ((r.filter (Bu p.2.1)).getD 0 pd=p)
def yE3 (r:List zQ)(p:zQ):Bool:=yOu r p||yMj r p
def mq (l:List zQ)(t:Int):List zQ:=(l.filter (RZ t)).filter (yE3 (l.filter (RZ t)))
theorem vC.split {r}(h:vC r){i}(hi:i<r.length):∀q∈r.take i,q.1≠(r.getD i pd).1:=by
 intro q hq;have e:r.take (i+1)=r.take i++[r.getD i pd]:=(kU r i pd hi).symm;have hs:vC (r.take (i+1)):=List.Pairwise.sublist (by grind) h;rw[e] at hs;exact(List.pairwise_append.1 hs).2.2 q hq _ (by simp)
theorem R0 {α:Type} r i (d:α)(hi:i<r.length):r=r.take i++r.getD i d::r.drop (i+1):=by
 simp_all
theorem lookup_cons (f g:Int)(l:List (Int×Bool)):(List.lookup f ((g,true)::l)).getD false=(decide (f=g)||(List.lookup f l).getD false):=by
 rw[List.lookup_cons];by_cases c:f=g
 ·subst c;simp
 ·have:(f==g)=false:=by simpa using c
  rw[this];simp[c]
def mr (p:Nat→Bool):Nat→Nat→Option Nat
 |0,_=>none
 |c+1,i=>bif p i then some i else mr p c (i+1)
def Ho:Option Nat→Unit⊕Int
 |some x=>.inr (x:Int)
 |none=>.inl ()
theorem Hq {L:Nat→Int→Option (Unit⊕Int)}{N:Nat} bad (bD:∀n,L (n+1) (N:Int)=some (.inl ()))
  (aA:∀n i,i<N→L (n+1) (i:Int)=bif bad i then some (.inr (i:Int)) else L n ((i+1:Nat):Int)):
  ∀c i n,i+c=N→c<n→L n (i:Int)=some (Ho (mr bad c i))
 |0,i,n,h,hn=>by
  obtain⟨n,rfl⟩:∃m,n=m+1:=⟨n-1,by omega⟩;have:i=N:=by omega
  subst this;exact bD n
 |c+1,i,n,h,hn=>by
  obtain⟨n,rfl⟩:∃m,n=m+1:=⟨n-1,by omega⟩;rw[aA n i (by omega)];unfold mr;cases hb:bad i with
  |true=>rfl
  |false=>
   exact Hq bad bD aA c (i+1) n (by omega) (by omega)
theorem R1 {p}:∀{c i x},mr p c i=some x→i≤x∧x<i+c∧p x=true∧∀j,i≤j→j<x→p j=false
 |c+1,i,x,h=>by
  unfold mr at h;cases hp:p i with
  |true=>
   grind
  |false=>
   rw[hp] at h;obtain⟨h1,h2,h3,h4⟩:=R1 h;grind
theorem R2 {p}:∀{c i},mr p c i=none→∀j,i≤j→j<i+c→p j=false
 |0,_,_=>by grind
 |c+1,i,h=>by
  unfold mr at h;cases hp:p i with
  |true=>
   simp_all
  |false=>
   rw[hp] at h;intro j j1 j2;by_cases e:j=i
   ·simp_all
   ·exact R2 h j (by omega) (by omega)
def jn (l:List zQ)(id:Int):Option Nat:=mr (fun x=>decide ((l.getD x pd).1=id)) l.length 0
def fK (l:List zQ)(id:Int):Int:=match jn l id with|some x=>(x:Int)|none=>-1
theorem Hr {l id x}(h:jn l id=some x):x<l.length∧(l.getD x pd).1=id:=by
 obtain⟨_,h2,h3,_⟩:=R1 h;simp_all
theorem yBg {l id}(h:jn l id=none):∀p∈l,p.1≠id:=by
 intro p hp e;obtain⟨i,hi,e'⟩:=List.getElem_of_mem hp;have:=R2 h i (by omega) (by omega);simp_all
theorem Hs {l p}(h:p∈l):∃x,jn l p.1=some x:=by
 cases e:jn l p.1 with
 |some x=>simp
 |none=>exact absurd rfl (yBg e p h)
theorem yQ7 {k}{l:List zQ}(hk:l.length<k)(hl:l.length<9223372036854775808) id:Bv k l id=some (fK l id):=by
 have := Hq (L := fun n i => sy k n l id i) (N := l.length) (fun x => decide ((l.getD x pd).1 = id)) (fun n=>by
  show sA k _ l id l.length=_;unfold sA;simp) (fun n j hj=>by
  show sA k _ l id j=_;unfold sA;simp[qG,qW hj hl,ai hj]) l.length 0 k (by omega) hk
 have h1:sy k k l id 0=some (Ho (jn l id)):=this;unfold Bv fK;rw[h1];cases jn l id<;>rfl
theorem yA0 {k}{l:List zQ}(hk:l.length<k)(hl:l.length<9223372036854775808) id:jo k l id=some (fK l id):=by
 have := Hq (L := fun n i => sB k n l l.length i id) (N := l.length) (fun x => decide ((l.getD x pd).1 = id)) (fun n=>by
  show sC k _ l l.length l.length id=_;unfold sC;simp) (fun n j hj=>by
  show sC k _ l l.length j id=_;unfold sC Ht;simp only[qG,qW hj hl,yW,ai hj];rfl) l.length 0 k (by omega) hk
 have h1:sB k k l l.length 0 id=some (Ho (jn l id)):=this;unfold jo Hu fK;rw[h1];cases jn l id<;>rfl
def fg (l:List zQ)(x:Nat):List zQ:=l.take x++l.drop (x+1)
theorem R3 {l x}(h:x<l.length):(fg l x).length=l.length-1:=by
 unfold fg;grind
theorem Bw l x:List.Sublist (fg l x) l:=by
 unfold fg
 conv=>rhs;rw[←List.take_append_drop x l]
 grind
theorem vC.cut {l}(h:vC l) x:vC (fg l x):=List.Pairwise.sublist (Bw l x) h
def Bx (l:List zQ)(id:Int):List zQ×Int×Int×Int×Int×Int×Int×Int×Int:=match jn l id with
 |some x=>(fg l x,(l.getD x pd).1,(l.getD x pd).2.1,(l.getD x pd).2.2.1,(l.getD x pd).2.2.2.1,(l.getD x pd).2.2.2.2.1,(l.getD x pd).2.2.2.2.2.1,(l.getD x pd).2.2.2.2.2.2,0)
 |none=>(l,0,0,0,0,0,0,0,4)
def jW (q p:zQ):Bool:=decide (q.2.1<p.2.1)||(decide (q.2.1=p.2.1)&&decide (q.2.2.2.2.1≤p.2.2.2.2.1))
def mu (q p:zQ):Bool:=decide (q.2.1<p.2.1)||(decide (q.2.1=p.2.1)&&decide (q.2.2.2.2.1<p.2.2.2.2.1))
theorem yP5 n x y:By (n+3) [x,y]=some (if x=0 then y else x):=by
 have key:∀n:Nat,xf (n+3) (n+3) 0 [x,y] 2 0=bif !decide (x=0) then some (.inr x) else bif !decide (y=0) then some (.inr y) else some (.inl 0):=fun n=>rfl
 unfold By;grind
theorem yQg k a b:xg k a b=some (if a<b then-1 else if a>b then 1 else 0):=by
 unfold xg Bz;grind
theorem yQ6 {k}(hk:3≤k) q p:∃x,sD k q.1 q.2.1 q.2.2.1 q.2.2.2.1 q.2.2.2.2.1 q.2.2.2.2.2.1 q.2.2.2.2.2.2 p.1 p.2.1 p.2.2.1 p.2.2.2.1 p.2.2.2.2.1 p.2.2.2.2.2.1 p.2.2.2.2.2.2=some x∧decide (x≤0)=jW q p∧decide (x<0)=mu q p:=by
 obtain⟨n,rfl⟩:∃n,k=n+3:=⟨k-3,by omega⟩;unfold sD;simp only[yQg,yP5];refine⟨_,rfl,?_,?_⟩
 ·unfold jW;grind
 ·unfold mu;grind
theorem R4 {α:Type} f (l:List α):l.take (l.takeWhile f).length=l.takeWhile f∧l.drop (l.takeWhile f).length=l.dropWhile f:=by
 have e:=List.takeWhile_append_dropWhile (p:=f) (l:=l);grind
theorem yGg {α:Type} f (l:List α):(l.takeWhile f).length≤l.length:=(List.takeWhile_sublist f).length_le
def vP (l:AC)(id:Int):Nat:=(l.takeWhile (fun x=>decide (x<id))).length
theorem yPc {x}(h0:0≤x)(h1:x<9223372036854775808):zA (shr .u64 (IntKind.wrap .u64 (zA x)) 1)=x/2:=by
 have e1:zA x=x:=zR (by omega) h1;have e2:IntKind.wrap .u64 x=x:=by
  unfold IntKind.wrap;simp[IntKind.bits];omega
 rw[e1,e2];have e3:shr .u64 x 1=x/2:=by
  have:(2:Int)^(min (1:Int).toNat (IntKind.bits .u64))=2:=by decide
  grind
 rw[e3];exact zR (by omega) (by omega)
theorem yFy k a b:BA k a b=some (decide (a<b)):=by
 unfold BA BB;simp
theorem Hv {k l id}(hl:l.length≤1000){c:Nat}(hc:c≤l.length)(h1:∀x,x<c→l.getD x 0<id)(h2:∀x,c≤x→x<l.length→id≤l.getD x 0) s6:
  ∀n i j,i≤c→c≤j→j≤l.length→j-i<n→xh k n l id s6 i j=some (l,id,s6,(c:Int))
 |n+1,i,j,hi,hj,nM,hn=>by
  show BC k (xh k n) l id s6 i j=_;unfold BC;rw[yW];by_cases fx:i<j
  ·have hh:zA (shr .u64 (IntKind.wrap .u64 (zA ((i:Int)+(j:Int)))) 1)=(((i+j)/2:Nat):Int):=by
    rw[yPc (by omega) (by omega)];omega
   have hm:(i+j)/2<l.length:=by omega
   rw[ai fx,aY,hh,qG,ai hm,aY,yFy];simp only[aG,bh];by_cases aS:(i+j)/2<c
   ·rw[ai (h1 _ aS),aY,qW hm (by omega)];exact Hv hl hc h1 h2 s6 n _ j (by omega) hj nM (by omega)
   ·rw[an (by grind),aU];exact Hv hl hc h1 h2 s6 n i _ hi (by omega) (by omega) (by omega)
  grind
theorem yN7 {k l id}(fa:l.length<k)(hl:l.length≤1000){c:Nat}(hc:c≤l.length)(h1:∀x,x<c→l.getD x 0<id)(h2:∀x,c≤x→x<l.length→id≤l.getD x 0):
  sE k l id=some ((c:Int),decide (c<l.length)&&decide (l.getD c 0=id)):=by
 unfold sE;have:=Hv (k:=k) hl hc h1 h2 (l.length:Int) k 0 l.length (by omega) hc (by simp) (by omega);rw[show((0:Nat):Int)=0 from rfl] at this;rw[this];simp only[aG,qG,bh];by_cases h:c<l.length
 ·simp only[ai h];by_cases h3:l.getD c 0=id
  ·simp_all
  ·rw[an h3];unfold BD;simp
 grind
def oP (l:AC):Prop:=List.Pairwise (fun a b=>a<b) l
theorem R5 {l id}:∀x,x<vP l id→l.getD x 0<id:=by
 intro x hx;unfold vP at hx;have h:=R4 (fun x=>decide (x<id)) l;have e:l.getD x 0=(l.takeWhile (fun x=>decide (x<id))).getD x 0:=by
  grind
 have hm:=oL (d:=(0:Int)) hx;have:=List.all_eq_true.1 (List.all_takeWhile (p:=fun x=>decide (x<id)) (l:=l)) _ hm;simp_all
theorem R6 {l}(ha:oP l){id}:∀x,vP l id≤x→x<l.length→id≤l.getD x 0:=by
 intro x hx hl;have hi:vP l id<l.length:=by omega
 have h:=R4 (fun x=>decide (x<id)) l;have h0:¬l.getD (vP l id) 0<id:=by
  have hd:l.drop (vP l id)=l[vP l id]::l.drop (vP l id+1):=by simp
  have h2:=h.2;unfold vP at hd;rw[h2] at hd;have ba:l.dropWhile (fun x=>decide (x<id))≠[]:=by rw[hd];simp
  have:=List.head_dropWhile_not (fun x=>decide (x<id)) ba;have e:(l.dropWhile (fun x=>decide (x<id))).head ba=l[vP l id]:=by
   unfold vP;simp_all
  simp_all
 by_cases e:x=vP l id
 ·rw[e];omega
 ·have:=List.pairwise_iff_getElem.1 ha (vP l id) x hi hl (by omega);grind
theorem yRk {l}(ha:oP l) id:(decide (vP l id<l.length)&&decide (l.getD (vP l id) 0=id))=decide (id∈l):=by
 by_cases hm:id∈l
 ·obtain⟨x,hx,e⟩:=List.getElem_of_mem hm;have e':l.getD x 0=id:=by simp_all
  have h1:¬x<vP l id:=fun h=>by have:=R5 x h;omega
  have h3:vP l id<l.length:=by omega
  have h4:¬vP l id<x:=fun h=>by
   have g1:=R6 ha (id:=id) (vP l id) (by simp) h3;have g2:=List.pairwise_iff_getElem.1 ha (vP l id) x h3 hx h;grind
  grind
 grind
theorem yOy {k l}(fa:l.length<k)(hl:l.length≤1000)(ha:oP l) id:sE k l id=some ((vP l id:Int),decide (id∈l)):=by
 rw[yN7 fa hl (yGg _ l) R5 (R6 ha)];show some ((vP l id:Int),decide (vP l id<l.length)&&decide (l.getD (vP l id) 0=id))=_;rw[yRk ha]
theorem ySl {k l}(fa:l.length<k)(hl:l.length≤1000)(ha:oP l) id:BE k l id=some (decide (id∈l)):=by
 unfold BE;rw[yOy fa hl ha];rfl
def jN (l:AC):Int:=zP (fun x=>x) l
def mv (x:Int):Bool:=decide (-9223372036854775808≤x)&&decide (x<9223372036854775808)
theorem R7 x:shr .i64 x 63=x/9223372036854775808:=by
 show x.fdiv (2^(min 63 64))=_;grind
theorem il x:IntKind.wrap .u64 x=x%18446744073709551616:=by
 rfl
theorem yJd {x}(h:0≤x∧x<18446744073709551616):zA x=if x<9223372036854775808 then x else x-18446744073709551616:=by
 unfold zA IntKind.wrap;simp[IntKind.bits,IntKind.signed];grind
theorem yO9 (l:AC) i (hi:i<l.length):jN (l.take (i+1))=jN (l.take i)+l.getD i 0:=by
 have:l.take (i+1)=l.take i++[l.getD i 0]:=by
  simp_all
 unfold jN;rw[this,gk];simp[zP]
theorem Hw {k l}(hk:l.length<k)(hl:l.length≤1000000)(hw:∀i,i<l.length→-9223372036854775808≤l.getD i 0∧l.getD i 0<9223372036854775808):
  sF k l=some (bif mv (jN l) then(jN l,true) else(0,false)):=by
 obtain ⟨s', g1, g2, g3, g4⟩ := hZ (L := fun n i (s : Int × Int) => sG k n s.1 s.2 l (l.length : Int) i) (N := l.length) (fun s => (s.1, s.2)) (fun i s => (0 ≤ s.2 ∧ s.2 < 18446744073709551616) ∧ s.1 * 18446744073709551616 + s.2 = jN (l.take i) ∧ (-(i : Int) ≤ s.1 ∧ s.1 ≤ i)) (fun n s _=>by
  show sH k _ s.1 s.2 l l.length l.length=_;unfold sH;simp only [yW, an (Nat.lt_irrefl _), aU]) (fun n i s hi hs=>by
  obtain⟨h,lo⟩:=s;obtain⟨⟨h1,h2⟩,h3,h4⟩:=hs;simp only at h1 h2 h3 h4;show∃s',sH k _ h lo l l.length i=_∧_;unfold sH oG;have hb:=hw i hi;have R8:=yO9 l i hi;obtain⟨v,hv⟩:∃v,l.getD i 0=v:=⟨_,rfl⟩;rw[hv] at hb R8;simp only[yW,qG,bh,ai hi,aY,hv,il,R7,decide_true,aG,qW hi (show l.length<9223372036854775808 by omega)];obtain⟨u,hu⟩:∃u,v%18446744073709551616=u:=⟨_,rfl⟩;rw[hu];obtain⟨q,hq⟩:∃q,v/9223372036854775808=q:=⟨_,rfl⟩;rw[hq];have iM:u=v-q*18446744073709551616:=by omega
  have sJ:q=0∨q= -1:=by omega
  obtain⟨a,ha⟩:∃a:Nat,lo.toNat+u.toNat+0=a:=⟨_,rfl⟩;rw[ha];have lH:(a:Int)=lo+u:=by omega
  obtain⟨c,hc⟩:∃c:Nat,a/18446744073709551616=c:=⟨_,rfl⟩;obtain⟨m,hm⟩:∃c:Nat,a%18446744073709551616=c:=⟨_,rfl⟩;rw[hc,hm];have hcm:a=c*18446744073709551616+m:=by omega
  have AR:m<18446744073709551616:=by omega
  have dY:c≤1:=by omega
  have e1:zA (Int.ofNat c)=(c:Int):=zR (by show(_:Int)≤((c:Nat):Int);omega) (by show((c:Nat):Int)<_;omega);have e2:zA (q+(c:Int))=q+c:=zR (by omega) (by omega);have e3:zA (h+(q+(c:Int)))=h+(q+c):=zR (by omega) (by omega);rw[e1,e2,e3];refine⟨(h+(q+c),(m:Int)),rfl,by grind,?_,?_⟩
  ·rw[R8];show(h+(q+c))*18446744073709551616+(m:Int)=_;omega
  ·show-((i+1:Nat):Int)≤h+(q+c)∧h+(q+c)≤((i+1:Nat):Int);omega) (s:=(0,0)) hk ⟨⟨by show(0:Int)≤0;omega,by show(0:Int)<_;omega⟩,rfl,by show-((0:Nat):Int)≤0;omega,by show(0:Int)≤((0:Nat):Int);omega⟩
 have g1':sG k k 0 0 l (l.length:Int) 0=some (s'.1,s'.2):=g1;rw[List.take_length] at g3;unfold sF;rw[g1'];simp only[aG,R7];rw[yJd g2];by_cases c:mv (jN l)=true
 ·have c':-9223372036854775808≤jN l∧jN l<9223372036854775808:=by simpa[mv] using c
  rw[c];by_cases d:s'.2<9223372036854775808
  ·rw[if_pos d,ai (show s'.1=s'.2/9223372036854775808 by omega)];simp only[bX,aU,aY];rw[show s'.2=jN l by omega]
  ·rw[if_neg d,ai (show s'.1=(s'.2-18446744073709551616)/9223372036854775808 by omega)];simp only[bX,aU,aY];rw[show s'.2-18446744073709551616=jN l by omega]
 ·have c':¬(-9223372036854775808≤jN l∧jN l<9223372036854775808):=by simpa[mv] using c
  rw[Bool.not_eq_true] at c;rw[c];by_cases d:s'.2<9223372036854775808
  ·rw[if_pos d,an (show¬s'.1=s'.2/9223372036854775808 by omega)];rfl
  ·rw[if_neg d,an (by grind)];rfl
theorem Hy {x}(h:0≤x):qI .u64 x 4294967295=x%4294967296:=by
 obtain⟨n,rfl⟩:=Int.eq_ofNat_of_zero_le h;unfold qI ke;rw[il];have e1:(BitVec.ofInt IntKind.u64.bits (n:Int)&&&BitVec.ofInt IntKind.u64.bits 4294967295).toNat=n%4294967296:=by
  rw[BitVec.toNat_and,BitVec.toNat_ofInt,BitVec.toNat_ofInt];have e2:((4294967295:Int)%((2^IntKind.u64.bits:Nat):Int)).toNat=2^32-1:=by decide
  rw[e2,Nat.and_two_pow_sub_one_eq_mod];have e3:((n:Int)%((2^IntKind.u64.bits:Nat):Int)).toNat=n%18446744073709551616:=by
   rfl
  omega
 grind
theorem yGn x:shr .u64 x 32=x/4294967296:=by
 show x.fdiv (2^(min 32 64))=_;grind
theorem yIa {a1 a0 b1 b0:Int}:(a1*4294967296+a0)*(b1*4294967296+b0)=a1*b1*18446744073709551616+(a1*b0+a0*b1)*4294967296+a0*b0:=by
 grind
theorem yI {a b A B:Int}(h0:0≤a)(h1:a≤A)(g0:0≤b)(g1:b≤B):0≤a*b∧a*b≤A*B:=
 ⟨Int.mul_nonneg h0 g0,Int.mul_le_mul h1 g1 g0 (by omega)⟩
theorem R9 (k:Nat){x y:Int}(hx:0≤x∧x<18446744073709551616)(hy:0≤y∧y<18446744073709551616):oQ k x y=some (x*y/18446744073709551616,x*y%18446744073709551616):=by
 unfold oQ;simp only[yGn,Hy hx.1,Hy hy.1,il];obtain⟨a1,h1⟩:∃a,x/4294967296=a:=⟨_,rfl⟩;obtain⟨a0,h0⟩:∃a,x%4294967296=a:=⟨_,rfl⟩;obtain⟨b1,g1⟩:∃a,y/4294967296=a:=⟨_,rfl⟩;obtain⟨b0,g0⟩:∃a,y%4294967296=a:=⟨_,rfl⟩;have hxe:x=a1*4294967296+a0:=by omega
 have hye:y=b1*4294967296+b0:=by omega
 rw[h1,h0,g1,g0];have BF:0≤a1∧a1≤4294967295:=by omega
 have fz:0≤a0∧a0≤4294967295:=by omega
 have dq:0≤b1∧b1≤4294967295:=by omega
 have BG:0≤b0∧b0≤4294967295:=by omega
 have p11:=yI BF.1 BF.2 dq.1 dq.2;have oz:=yI BF.1 BF.2 BG.1 BG.2;have p01:=yI fz.1 fz.2 dq.1 dq.2;have p00:=yI fz.1 fz.2 BG.1 BG.2;have Bq:x*y=a1*b1*18446744073709551616+(a1*b0+a0*b1)*4294967296+a0*b0:=by rw[hxe,hye,yIa]
 rw[Bq];generalize a1*b1=u at*
 generalize a1*b0=v at*
 generalize a0*b1=s at*
 generalize a0*b0=t at*
 have c1:(t%18446744073709551616)=t:=by omega
 have c2:(v%18446744073709551616+t/4294967296)%18446744073709551616=v+t/4294967296:=by omega
 rw[c1,c2];have xi:qI .u64 (v+t/4294967296) 4294967295=(v+t/4294967296)%4294967296:=Hy (by omega);rw[xi];refine congrArg some (Prod.ext ?_ ?_)
 ·show _%_=_/_;omega
 ·rfl
theorem yC2 k {x}(hx:0≤x∧x<18446744073709551616):sK k 0 x 10000=some (x/10000,x%10000):=by
 unfold sK;have e1:decide ((10000:Int)=0)=false:=rfl;have e2:decide ((10000:Int)≤0)=false:=rfl;simp[il];grind
def kX (price many cut:Int):Int:=price*many*(10000-cut)/10000
theorem Sa {p m c}(hp:0≤p∧p≤1048576)(hm:0≤m∧m≤1099511627776)(hc:0≤c∧c≤10000):0≤kX p m c∧kX p m c≤1152921504606846976:=by
 have h1:=yI hp.1 hp.2 hm.1 hm.2;have h2:=yI h1.1 h1.2 (by grind) (show 10000-c≤10000 by omega);unfold kX;omega
theorem yGm k {p m c}(hp:0≤p∧p≤1048576)(hm:0≤m∧m≤1099511627776)(hc:0≤c∧c≤10000):sL k p m c=some (kX p m c,true):=by
 unfold sL xj;have w1:zA (10000-c)=10000-c:=zR (by omega) (by omega);have e1:decide (p<0)=false:=an (by omega);have e2:decide (m<0)=false:=an (by omega);have e3:decide (c≥0)=true:=ai (by omega);have e4:decide (c≤10000)=true:=ai (by omega);have u1:p%18446744073709551616=p:=by omega
 have u2:m%18446744073709551616=m:=by omega
 have u3:(10000-c)%18446744073709551616=10000-c:=by omega
 have h1:=yI hp.1 hp.2 hm.1 hm.2;have hP:p*m/18446744073709551616=0:=by omega
 have hP2:p*m%18446744073709551616=p*m:=by omega
 have t0:Int.tmod 0 10000=0:=by simp
 have t1:Int.tdiv 0 10000=0:=by simp
 rw[e1,e2,e3,e4,aU,aU,aY,aG,bX,aU,il p,il m,u1,u2,R9 k (by grind) (by grind),aG,hP,hP2];dsimp only;rw[t0,t1,yC2 k (by grind),aG];dsimp only;rw[w1,il (10000-c),u3];unfold kX;obtain⟨l,hl⟩:∃l,10000-c=l:=⟨_,rfl⟩;rw[hl];obtain⟨P,hPe⟩:∃P,p*m=P:=⟨_,rfl⟩;rw[hPe] at h1⊢;have kM:0≤l∧l≤10000:=by omega
 rw[R9 k (by grind) (by grind)];have hq:=yI (show 0≤P/10000 by omega) (show P/10000≤115292150460684 by omega) kM.1 kM.2;have hr:=yI (show 0≤P%10000 by omega) (show P%10000≤9999 by omega) kM.1 kM.2;have oR:P*l=P/10000*l*10000+P%10000*l:=by
  grind
 rw[oR];generalize P/10000*l=a at*
 generalize P%10000*l=b at*
 have v1:a/18446744073709551616=0:=by omega
 have v2:a%18446744073709551616=a:=by omega
 have v3:b%18446744073709551616=b:=by omega
 have v4:Int.tdiv b 10000=b/10000:=Int.tdiv_eq_ediv_of_nonneg hr.1;have v5:b/10000%18446744073709551616=b/10000:=by omega
 have ha:oG k a (b/10000) 0=some (a+b/10000,0):=by
  have n1:(Int.ofNat ((a.toNat+(b/10000).toNat+0)%18446744073709551616))=a+b/10000:=by rw[Int.ofNat_eq_natCast];omega
  have n2:(Int.ofNat ((a.toNat+(b/10000).toNat+0)/18446744073709551616))=0:=by rw[Int.ofNat_eq_natCast];omega
  unfold oG;rw[ai rfl,aY,n1,n2]
 rw[aG];dsimp only;rw[v1,v2,il b,v3,v4,il (b/10000),v5,ha,aG];dsimp only;have z1:IntKind.wrap .u64 0=0:=by rw[il];omega
 have z2:IntKind.wrap .u64 (0+0)=0:=by rw[il];omega
 have z5:zA (a+b/10000)=a+b/10000:=zR (by omega) (by omega);grind
abbrev oS:=Int×Int
abbrev wJ:oS:=(0,0)
def gn (sa:List oS)(pr h:AC)(i:Nat):Int:=kX (pr.getD i 0) (h.getD i 0) (sa.getD i wJ).2
def im (sa:List oS)(pr h:AC):Int:=qF (gn sa pr h) sa.length
structure jq (sa:List oS) (pr h:AC):Prop where
 n3:sa.length≤3
 pl:pr.length=sa.length
 hl:h.length=sa.length
 cut:∀i,i<sa.length→0≤(sa.getD i wJ).2∧(sa.getD i wJ).2≤10000
 price:∀i,i<sa.length→0≤pr.getD i 0∧pr.getD i 0≤1048576
 hold:∀i,i<sa.length→0≤h.getD i 0∧h.getD i 0≤1099511627776
theorem BH {sa pr h}(L:jq sa pr h){i}(hi:i<sa.length):0≤gn sa pr h i∧gn sa pr h i≤1152921504606846976:=Sa (L.price i hi) (L.hold i hi) (L.cut i hi)
theorem Hz g:∀n,jN ((List.range n).map g)=qF g n
 |0=>rfl
 |n+1=>by
  rw[List.range_succ,List.map_append];unfold jN;rw[gk];have:=Hz g n;unfold jN at this;rw[this];show qF g n+(g n+0)=qF g n+g n;omega
theorem HA {g A}:∀{n},(∀j,j<n→0≤g j∧g j≤A)→0≤qF g n∧qF g n≤n*A
 |0,_=>by simp[qF]
 |n+1,h=>by
  have h1:=HA (n:=n) (fun j hj=>h j (by omega));have h2:=h n (by omega);have h3:((n+1:Nat):Int)*A=n*A+A:=by grind
  show 0≤qF g n+g n∧qF g n+g n≤_;omega
theorem yD6 {k:Nat}{sa:List oS}{pr h:AC}(L:jq sa pr h)(hk:10≤k):iq k k pr h sa sa.length 0 []=some (.inl ((List.range sa.length).map (gn sa pr h))):=by
 have hn:=L.n3;obtain ⟨s', h1, h2⟩ := hZ (L := fun n i (s : AC) => iq k n pr h sa sa.length i s) (N := sa.length) (fun s => .inl s) (fun i s => s = (List.range i).map (gn sa pr h)) (fun n s _=>by
  show jt k _ pr h sa sa.length sa.length s=_;unfold jt;simp only [yW, an (Nat.lt_irrefl _), aU]) (fun n i s hi hs=>by
  refine⟨s++[gn sa pr h i],?_,?_⟩
  ·show jt k _ pr h sa sa.length i s=_;unfold jt;have rz:s.length≤3:=by rw[hs,List.length_map,List.length_range];omega
   have hw:=yGm k (L.price i hi) (L.hold i hi) (L.cut i hi);simp only[yW,qG,bh,ai hi,ai (show i<pr.length by rw[L.pl];exact hi),ai (show i<h.length by rw[L.hl];exact hi),aY,qW hi (show sa.length<9223372036854775808 by omega)];rw[hw];simp only[aG,bX,aU,gj (show(s.length+1)*8≤140737488355328 by omega) (show s.length+1≤140737488355328 by omega),aY];rfl
  ·rw[hs,List.range_succ,List.map_append];rfl) (s:=[]) (show sa.length<k by omega) rfl
 have nA:iq k k pr h sa sa.length 0 []=_:=h1;rw[nA,h2]
theorem yOc {k sa pr h}(L:jq sa pr h)(hk:10≤k):gp k sa pr h=some (im sa pr h,true):=by
 have hn:=L.n3;have hb:=HA (g:=gn sa pr h) (n:=sa.length) (fun j hj=>BH L hj);unfold gp;have e1:decide ((pr.length:Int)=(sa.length:Int))=true:=ai (by rw[L.pl]);have e2:decide ((h.length:Int)=(sa.length:Int))=true:=ai (by rw[L.hl]);simp[e1,e2];rw[yD6 L hk];simp;rw [Hw (by grind) (by grind) (fun i hi=>by
  rw[List.length_map,List.length_range] at hi;have:=BH L hi;grind)]
 rw[Hz];have e3:mv (qF (gn sa pr h) sa.length)=true:=by
  unfold mv;grind
 rw[e3];rfl
abbrev BT:=List yF×EQ×AC×EQ
def ju (B:BT):Prop:=mm B.1 B.2.1 B.2.2.1 B.2.2.2
theorem yQw {k}(hk:100<k){B}(h:ju B){l:List zQ}(hl:l.length≤80):
  ∃r,mo k B.1 B.2.1 B.2.2.1 B.2.2.2 l=some r∧Hn k B.1 B.2.1 B.2.2.1 B.2.2.2 l=some r∧kW B.1 B.2.1 B.2.2.1 B.2.2.2 l r:=by
 obtain⟨r,h1,h2⟩:=yKm hk h hl;obtain⟨r',h3,h4⟩:=yOd hk h hl;have:=h2.same h4;simp_all
def Sb (B:BT)(l:List zQ):Bool:=yGq B.1 B.2.1 B.2.2.1 B.2.2.2 l
def ir (k:Nat)(B:BT)(l:List zQ):Option BT:=match mo k B.1 B.2.1 B.2.2.1 B.2.2.2 l with
 |some r=>bif decide (r.2.2.2.2=0)&&Sb B l then some (r.1,r.2.1,r.2.2.1,r.2.2.2.1) else none
 |none=>none
theorem Sc {k}(hk:100<k){B C}(h:ju B){l}(hl:l.length≤80)(hg:ir k B l=some C):ju C∧C.1.length=B.1.length:=by
 obtain⟨r,h1,h2,h3⟩:=yQw hk h hl;unfold ir at hg;rw[h1] at hg;simp only at hg;cases hc:decide (r.2.2.2.2=0)&&Sb B l with
 |false=>
  simp_all
 |true=>
  rw[hc] at hg;simp  at hg;subst hg;refine⟨(RV h h3).2.1,?_⟩;by_cases c:wA B.1.length l
  ·obtain⟨a',p',x,e⟩:=h3.1 c;cases hi:eL a' B.2.1 B.2.2.1 p' with
   |false=>simp_all
   |true=>rw[hi] at e;subst e;exact x.al
  ·rw[h3.2 c]
def mw (k:Nat)(B:BT):List zQ→Option (zQ×BT)
 |[]=>none
 |p::l=>match ir k B [p] with
  |some C=>some (p,C)
  |none=>mw k B l
theorem HB {k B C p}:∀{l},mw k B l=some (p,C)→p∈l∧ir k B [p]=some C
 |q::l,h=>by
  unfold mw at h;cases hg:ir k B [q] with
  |some D=>
   simp_all
  |none=>
   rw[hg] at h;have:=HB h;simp_all
def iu (l:List zQ)(id:Int):List zQ:=(Bx l id).1
theorem BI {l p}(h:p∈l):(iu l p.1).length+1=l.length∧List.Sublist (iu l p.1) l:=by
 obtain⟨x,hx⟩:=Hs h;unfold iu Bx;rw[hx];have:=(Hr hx).1;refine⟨?_,Bw l x⟩;rw[R3 this];omega
theorem HC {l t p}(h:p∈mq l t):p∈l:=(List.mem_filter.1 (List.mem_filter.1 h).1).1
inductive iw (k:Nat) (t:Int):BT→List zQ→List zQ→BT→List zQ→Prop
 |stop {B:BT} {l:List zQ} (h:mw k B (mq l t)=none):iw k t B l [] B l
 |step {B C D:BT} {l m done:List zQ} {p:zQ} (h:mw k B (mq l t)=some (p,C)) (h':iw k t C (iu l p.1) done D m):iw k t B l (p::done) D m
def my (p q:zQ):Bool:=decide (q.2.1=p.2.2.1)&&(decide (q.2.2.1=p.2.1)&& !decide (p.2.1≥q.2.1))
def xk (k:Nat)(B:BT)(p:zQ):List zQ→Option (zQ×BT)
 |[]=>none
 |q::l=>match(bif my p q then ir k B [p,q] else none) with
  |some C=>some (q,C)
  |none=>xk k B p l
def BJ (k:Nat)(B:BT)(m:List zQ):List zQ→Option (zQ×zQ×BT)
 |[]=>none
 |p::l=>match xk k B p m with
  |some (q,C)=>some (p,q,C)
  |none=>BJ k B m l
theorem HD {k B C p q}:∀{l},xk k B p l=some (q,C)→q∈l∧my p q=true∧ir k B [p,q]=some C
 |r::l,h=>by
  unfold xk at h;cases hd:my p r with
  |false=>
   rw[hd] at h;have:=HD (l:=l) h;simp_all
  |true=>
   rw[hd] at h;cases hg:ir k B [p,r] with
   |some D=>
    simp_all
   |none=>
    rw[hg] at h;have:=HD (l:=l) h;simp_all
theorem HE {k B C p q m}:∀{l},BJ k B m l=some (p,q,C)→p∈l∧q∈m∧my p q=true∧ir k B [p,q]=some C
 |r::l,h=>by
  unfold BJ at h;cases hq:xk k B r m with
  |some x=>
   rw[hq] at h;cases h;exact⟨by simp,HD hq⟩
  |none=>
   rw[hq] at h;have:=HE (l:=l) h;simp_all
def eN (k:Nat)(B:BT)(l:List zQ)(t:Int):Option (zQ×zQ×BT):=BJ k B (mq l t) (mq l t)
theorem yDq {l x q}(hx:x<l.length)(h:q∈l)(ba:q≠l.getD x pd):q∈fg l x:=by
 unfold fg;have e:=R0 l x pd hx;grind
theorem vC.eq_of {l}(h:vC l){p q}(hp:p∈l)(hq:q∈l)(e:p.1=q.1):p=q:=by
 obtain⟨i,hi,ei⟩:=List.getElem_of_mem hp;obtain⟨j,hj,ej⟩:=List.getElem_of_mem hq;have hl:=List.pairwise_iff_getElem.1 h;grind
theorem Sd {l p q}(hp:p∈l)(hq:q∈l)(ba:q.1≠p.1):q∈iu l p.1:=by
 obtain⟨x,hx⟩:=Hs hp;unfold iu Bx;rw[hx];have:=Hr hx;exact yDq this.1 hq (by grind)
def BK (l:List zQ)(p q:zQ):List zQ:=iu (iu l p.1) q.1
theorem HF {k B C l t p q}(h:eN k B l t=some (p,q,C)):p∈l∧q∈l∧my p q=true∧ir k B [p,q]=some C:=by
 obtain⟨h1,h2,h3⟩:=HE h;exact⟨HC h1,HC h2,h3⟩
theorem Se {l}(hd:vC l){p q}(hp:p∈l)(hq:q∈l)(h:my p q=true):q.1≠p.1:=by
 intro e;have:=hd.eq_of hq hp e;subst this;unfold my at h;simp at h
theorem HG {l}(hd:vC l){p q}(hp:p∈l)(hq:q∈l)(h:my p q=true):(BK l p q).length+2=l.length∧List.Sublist (BK l p q) l:=by
 obtain⟨h1,h2⟩:=BI hp;obtain⟨h3,h4⟩:=BI (Sd hp hq (Se hd hp hq h));unfold BK;exact⟨by omega,h4.trans h2⟩
inductive dP (k:Nat) (t:Int):BT→List zQ→List zQ→BT→List zQ→Prop
 |stop {B:BT} {l:List zQ} (h:eN k B l t=none):dP k t B l [] B l
 |step {B C D:BT} {l m done:List zQ} {p q:zQ} (h:eN k B l t=some (p,q,C)) (h':dP k t C (BK l p q) done D m):dP k t B l (p::q::done) D m
theorem dP.length {k t B C l done m}(h:dP k t B l done C m)(hd:vC l):done.length+m.length=l.length∧done.length%2=0:=by
 induction h with
 |stop _=>simp
 |step h _ ih=>
  obtain⟨hp,hq,sM,_⟩:=HF h;obtain⟨h1,h2⟩:=HG hd hp hq sM;have:=ih (List.Pairwise.sublist h2 hd);grind
theorem dP.sub {k t B C l done m}(h:dP k t B l done C m)(hd:vC l):List.Sublist m l:=by
 induction h with
 |stop _=>simp
 |step h _ ih=>
  obtain⟨hp,hq,sM,_⟩:=HF h;obtain⟨h1,h2⟩:=HG hd hp hq sM;exact(ih (List.Pairwise.sublist h2 hd)).trans h2
def cnt (l:List zQ)(f:Int):Nat:=(l.filter (Bu f)).length
def yE1 (l:List zQ)(many:AC)(i:Nat):Bool:=
 (decide ((l.getD i pd).2.1≥0)&&decide ((l.getD i pd).2.1<(many.length:Int)))&&decide (((cnt (l.take i) (l.getD i pd).2.1:Nat):Int)<many.getD (l.getD i pd).2.1.toNat 0)
def Sf (l:List zQ)(many:AC):Nat→List zQ
 |0=>[]
 |i+1=>Sf l many i++(bif yE1 l many i then[l.getD i pd] else[])
def HH (l:List zQ)(many:AC):List zQ:=Sf l many l.length
def kY (v w:AC):Prop:=v.length=w.length∧∀i,i<w.length→v.getD i 0≤w.getD i 0
def sN (B:BT)(l:List zQ):AC:=RX B.1 B.2.1 B.2.2.1 B.2.2.2 l
def mz (s:AC)(m:AC):AC:=s.foldl (fun m i=>m.set i.toNat (m.getD i.toNat 0-1)) m
theorem HI:∀s m,(mz s m).length=m.length
 |[],_=>rfl
 |i::s,m=>by
  show(mz s (m.set i.toNat (m.getD i.toNat 0-1))).length=_;rw[HI s,List.length_set]
theorem Sg:∀(s:List Nat) m,s.Nodup→(∀i∈s,i<m.length)→∀j,(mz (s.map fun(x:Nat)=>(x:Int)) m).getD j 0=m.getD j 0-(if j∈s then 1 else 0)
 |[],m,_,_,j=>by simp[mz]
 |i::s,m,hs,hi,j=>by
  show(mz (s.map fun(x:Nat)=>(x:Int)) (m.set ((i:Int)).toNat (m.getD ((i:Int)).toNat 0-1))).getD j 0=_;rw[bh,Sg s _ (by grind) (by grind),fJ];grind
def HJ (B:BT)(l:List zQ)(i:Nat):Bool:=Bt B.1 B.2.1 B.2.2.1 B.2.2.2 l i
theorem yFp B l {m}(hm:m.length=B.1.length) j:(mz (sN B l) m).getD j 0=m.getD j 0-(if j<B.1.length∧HJ B l j=true then 1 else 0):=by
 have:=Sg ((List.range B.1.length).filter fun i=>HJ B l i) m (List.Nodup.sublist List.filter_sublist (by grind)) (by grind) j;unfold sN RX;rw[show(fun i=>Bt B.1 B.2.1 B.2.2.1 B.2.2.2 l i)=fun i=>HJ B l i from rfl,this];simp
inductive xl (B:BT) (l:List zQ):AC→AC→Nat→Prop
 |stop {m:AC} (h:sN B (HH l m)=[]):xl B l m m 0
 |step {m f:AC} {n:Nat} (h:sN B (HH l m)≠[]) (h':xl B l (mz (sN B (HH l m)) m) f n):xl B l m f (n+1)
theorem yK1 {B l m}(hm:m.length=B.1.length):kY (mz (sN B l) m) m:=by
 refine⟨HI _ _,fun i hi=>?_⟩;rw[yFp B l hm];omega
theorem kY.trans {u v w}(h:kY u v)(h':kY v w):kY u w:=⟨h.1.trans h'.1,fun i hi=>Int.le_trans (h.2 i (by have:=h'.1;omega)) (h'.2 i hi)⟩
theorem kY.refl v:kY v v:=⟨rfl,by simp⟩
theorem xl.le {B l m f n}(h:xl B l m f n)(hm:m.length=B.1.length):kY f m:=by
 induction h with
 |stop _=>exact kY.refl _
 |step _ _ ih=>exact(ih ((HI _ _).trans hm)).trans (yK1 hm)
theorem yOh {l x}(hx:x<l.length):List.Perm (l.getD x pd::fg l x) l:=by
 unfold fg;have h:List.Perm (l.getD x pd::(l.take x++l.drop (x+1))) (l.take x++l.getD x pd::l.drop (x+1)):=by grind
 simp_all
theorem HK {l}(hd:vC l){p}(hp:p∈l):List.Perm (p::iu l p.1) l:=by
 obtain⟨x,hx⟩:=Hs hp;have h:=Hr hx;have e:l.getD x pd=p:=hd.eq_of (by grind) hp h.2;unfold iu Bx;have:=yOh h.1;simp_all
theorem iw.perm {k t B C l done m}(h:iw k t B l done C m)(hd:vC l):List.Perm (done++m) l:=by
 induction h with
 |stop _=>rfl
 |step h _ ih=>
  have hp:=HC (HB h).1;exact((ih (List.Pairwise.sublist (BI hp).2 hd)).cons _).trans (HK hd hp)
theorem dP.perm {k t B C l done m}(h:dP k t B l done C m)(hd:vC l):List.Perm (done++m) l:=by
 induction h with
 |stop _=>rfl
 |step h _ ih=>
  obtain⟨hp,hq,sM,_⟩:=HF h;obtain⟨h1,h2⟩:=HG hd hp hq sM;have uQ:vC (iu _ _):=List.Pairwise.sublist (BI hp).2 hd;have sJ:=Sd hp hq (Se hd hp hq sM);exact(((ih (List.Pairwise.sublist h2 hd)).cons _).cons _).trans (((HK uQ sJ).cons _).trans (HK hd hp))
theorem vC.perm {l m}(h:vC l)(hp:List.Perm m l):vC m:=(List.Perm.pairwise_iff (R:=fun p q:zQ=>p.1≠q.1) (by grind) hp.symm).1 h
inductive oT (k:Nat) (t:Int):BT→List zQ→List zQ→BT→List zQ→Prop
 |stop {B C:BT} {l m d:List zQ} (h1:iw k t B l d C m) (h2:eN k C m t=none):oT k t B l d C m
 |step {B C D E:BT} {l m n o d e f:List zQ} (h1:iw k t B l d C m) (h2:dP k t C m e D n) (ne:e≠[]) (h':oT k t D n f E o):oT k t B l (d++e++f) E o
theorem oT.perm {k t B C l done m}(h:oT k t B l done C m)(hd:vC l):List.Perm (done++m) l:=by
 induction h with
 |stop h1 _=>exact h1.perm hd
 |@step B C D E l m n o d e f h1 h2 ne h' ih=>
  have p1:=h1.perm hd;have hd1:=hd.perm p1;have hm:vC m:=(List.pairwise_append.1 hd1).2.1;have p2:=h2.perm hm;have hn:vC n:=(List.pairwise_append.1 (hm.perm p2)).2.1;grind
theorem iw.none {k t B C l done m}(h:iw k t B l done C m)(hn:mw k B (mq l t)=none):done=[]∧C=B∧m=l:=by
 cases h with
 |stop _=>simp
 |step h _=>simp_all
theorem dP.none {k t B C l done m}(h:dP k t B l done C m)(hn:eN k B l t=none):done=[]∧C=B∧m=l:=by
 cases h with
 |stop _=>simp
 |step h _=>simp_all
theorem dP.nil {k t B C l m}(h:dP k t B l [] C m):eN k B l t=Option.none∧C=B∧m=l:=by
 cases h with
 |stop h=>simp_all
theorem oT.none {k t B C l done m}(h:oT k t B l done C m)(h1:mw k B (mq l t)=Option.none)(h2:eN k B l t=Option.none):done=[]∧C=B∧m=l:=by
 cases h with
 |stop g1 _=>exact g1.none h1
 |step g1 g2 ne _=>
  obtain⟨rfl,rfl,rfl⟩:=g1.none h1;obtain⟨rfl,_,_⟩:=g2.none h2;simp_all
abbrev gq:=Int×Int×Int×Int×Int×Int×Int×Int
instance oU:DecidableEq gq:=@instDecidableEqProd Int (Int×Int×Int×Int×Int×Int×Int) inferInstance (@instDecidableEqProd Int (Int×Int×Int×Int×Int×Int) inferInstance inferInstance)
def yGr (q:zQ)(o:gq):Bool:=decide (o.2.2.1=q.1)&&(decide (o.1=q.2.1)&&(decide (o.2.1=21)||(decide (o.2.1=22)||decide (o.2.1=18))))
def HL (q:zQ)(o:List gq):Nat:=o.countP (yGr q)
def yO7 (t:Int)(p:zQ):Bool:=decide (t>p.2.2.2.2.2.2)
structure yTs (t cl:Int) (B C:BT) (m m':List zQ) (ov:Bool) (o:List gq):Prop where
 bk:ju C
 bl:C.1.length=B.1.length
 sub:List.Sublist m' m
 over:ov=decide (t+1=cl)
 none:ov=true→m'=[]
 late:ov=false→∀p∈m',yO7 (t+1) p=false
 RV:∀p∈m',HL p o=0
 ir:∀p∈m,p∉m'→HL p o=1
 quiet:∀q:zQ,(∀p∈m,p.1≠q.1)→HL q o=0
 room:o.length+2*m'.length≤2*m.length+(if ov=true then 6 else 0)
structure sQ (B C:BT):Prop where
 len:C.1.length=B.1.length
 sum:qF (fun i=>(C.1.getD i ad).1) B.1.length=qF (fun i=>(B.1.getD i ad).1) B.1.length
 cred:∀i,i<B.1.length→(C.1.getD i ad).2.1=(B.1.getD i ad).2.1
 bil:C.2.1=B.2.1
 mul:C.2.2.1=B.2.2.1
 fell:∀i,i<B.1.length→(C.1.getD i ad).1<(B.1.getD i ad).1→0≤(C.1.getD i ad).1+(C.1.getD i ad).2.1
theorem sQ.refl B:sQ B B:=⟨rfl,rfl,by simp,rfl,rfl,by simp⟩
theorem sQ.trans {B C D}(h:sQ B C)(g:sQ C D):sQ B D:=
 ⟨g.len.trans h.len,by have:=g.sum;rw[h.len] at this;exact this.trans h.sum,fun i hi=>(g.cred i (by rw[h.len];exact hi)).trans (h.cred i hi),g.bil.trans h.bil,g.mul.trans h.mul,fun i hi=>by
  have h1:=h.fell i hi;have h2:=g.fell i (by rw[h.len];exact hi);have h3:=g.cred i (by rw[h.len];exact hi);omega⟩
theorem iw.bk {k}(hk:100<k){t B C l done m}(h:iw k t B l done C m)(hb:ju B):ju C:=by
 induction h with
 |stop _=>exact hb
 |step h h' ih=>exact ih (Sc hk hb (by simp) (HB h).2).1
theorem dP.bk {k}(hk:100<k){t B C l done m}(h:dP k t B l done C m)(hb:ju B):ju C:=by
 induction h with
 |stop _=>exact hb
 |step h h' ih=>exact ih (Sc hk hb (by simp) (HE h).2.2.2).1
abbrev BL:=EQ
abbrev vK:=Int×List oS×Int×Int×Int
abbrev sR:=Int×Int×Int×Int×Int×Int×Int
structure yK where
 t:Int
 B:BT
 pr:AC
 ho:BL
 m:List zQ
 ids:AC
 to:Int
 ov:Bool
abbrev yD5:=Int×List yF×BL×AC×BL×AC×BL×List zQ×AC×Int×Bool
def yK.st (s:yK):yD5:=(s.t,s.B.1,s.B.2.1,s.B.2.2.1,s.B.2.2.2,s.pr,s.ho,s.m,s.ids,s.to,s.ov)
structure oV (r:vK):Prop where
 pa:1≤r.1∧r.1≤6
 n3:r.2.1.length≤3
 price:∀i,i<r.2.1.length→0≤(r.2.1.getD i wJ).1∧(r.2.1.getD i wJ).1≤1048576
 cut:∀i,i<r.2.1.length→0≤(r.2.1.getD i wJ).2∧(r.2.1.getD i wJ).2≤10000
 cu:0≤r.2.2.1∧r.2.2.1≤r.2.2.2.1
 cl:1≤r.2.2.2.1∧r.2.2.2.1≤1048576
 pe:1≤r.2.2.2.2∧r.2.2.2.2≤1048576
def xm (m:List zQ):Prop:=List.Pairwise (fun p q=>jW p q=true) m
structure mA (n:Nat) (m:List zQ) (ids:AC):Prop where
 dist:vC m
 len:m.length≤40
 sort:xm m
 may:∀p∈m,jV n p
 time:∀p∈m,0≤p.2.2.2.2.2.1∧p.2.2.2.2.2.1≤p.2.2.2.2.2.2∧p.2.2.2.2.2.2≤1048576
 were:∀p∈m,p.1∈ids
 asc:oP ids
 pos:∀x∈ids,1≤x
 idl:ids.length≤200
structure Inv (r:vK) (s:yK):Prop where
 tk:0≤s.t∧s.t≤r.2.2.2.1
 bk:ju s.B
 n:(s.B.1.length:Int)=r.1
 uF:s.ho.length=s.B.1.length
 laid:∀i,i<s.B.1.length→jq r.2.1 s.pr (s.ho.getD i [])
 cred:∀i,i<s.B.1.length→(s.B.1.getD i ad).2.1=im r.2.1 s.pr (s.ho.getD i [])
 HM:∀i,i<s.B.1.length→(s.B.1.getD i ad).2.1≤1152921504606846976
 waits:mA s.B.1.length s.m s.ids
 sum:qF (fun i=>(s.B.1.getD i ad).1) s.B.1.length=s.to
 OT:0≤s.to∧s.to≤1152921504606846976
 over:s.ov=decide (s.t=r.2.2.2.1)
 none:s.ov=true→s.m=[]
theorem BM k a b c:yU k a b c=some (decide (a≥b)&&decide (a≤c)):=by
 unfold yU;grind
theorem fZ {α:Type} c (a b:α):(bif c then some a else some b)=some (bif c then a else b):=by grind
def yIz (BN kd a:Int):gq:=(BN,kd,a,0,0,0,0,0)
theorem jq.set {sa pr h}(L:jq sa pr h){i}(hi:i<sa.length){v}(hv:0≤v∧v≤1099511627776):jq sa pr (h.set i v):=
 ⟨L.n3,L.pl,by rw[List.length_set];exact L.hl,L.cut,L.price,fun j hj=>by
  rw[fJ];split
  ·exact hv
  ·exact L.hold j hj⟩
theorem HN x (s:Nat)(h:s≤62):shr .i64 x (s:Int)=x/2^s:=by
 have e:shr .i64 x (s:Int)=x.fdiv (2^(min (s:Int).toNat 64)):=rfl;grind
theorem jv x:shr .i64 x 16=x/65536:=HN x 16 (by decide)
theorem Sh x:shr .i64 x 32=x/4294967296:=HN x 32 (by decide)
theorem Si x:shr .i64 x 48=x/281474976710656:=HN x 48 (by decide)
theorem yBq x:shr .i64 x 0=x:=by grind
theorem kZ x:qI .i64 x 65535=x%65536:=Rx 16 (by decide) x
theorem HO m (hm:m≤62){x y}(hx:0≤x)(hy:0≤y∧y<2^m)(hs:x*2^m+y<9223372036854775808):wF .i64 (x*2^m) y=x*2^m+y:=by
 obtain⟨a,rfl⟩:=Int.eq_ofNat_of_zero_le hx;obtain⟨b,rfl⟩:=Int.eq_ofNat_of_zero_le hy.1;have hp:(2:Int)^m=((2^m:Nat):Int):=by simp
 rw[hp] at hs hy⊢;have e1:(a:Int)*((2^m:Nat):Int)=((a*2^m:Nat):Int):=by simp
 rw[e1] at hs⊢;have hb:b<2^m:=by omega
 unfold wF ke;have xn:IntKind.i64.bits=64:=rfl;have e2:(BitVec.ofInt IntKind.i64.bits ((a*2^m:Nat):Int)|||BitVec.ofInt IntKind.i64.bits (b:Int)).toNat=a*2^m+b:=by
  rw[BitVec.toNat_or,BitVec.ofInt_natCast,BitVec.ofInt_natCast,BitVec.toNat_ofNat,BitVec.toNat_ofNat,xn,Nat.mod_eq_of_lt (by omega),Nat.mod_eq_of_lt (by omega)];have:=Nat.shiftLeft_add_eq_or_of_lt hb a;rw[Nat.shiftLeft_eq] at this;exact this.symm
 rw[e2];exact zR (by omega) (by omega)
def V9 (l0 l1 l2 l3 l4 l5 l6 l7 l8:Int):Int:=l0+65536*(l1+65536*(l2+65536*(l3+65536*(l4+65536*(l5+65536*(l6+65536*(l7+65536*l8)))))))
theorem yHz (l0 l1 l2 l3 l4 l5 l6 l7 l8:Int){c1 c2 c3 c4 c5 c6 c7 c8:Int}(h1:c1=zA (l1+shr .i64 l0 16))(h2:c2=zA (l2+shr .i64 c1 16))(h3:c3=zA (l3+shr .i64 c2 16))(h4:c4=zA (l4+shr .i64 c3 16))(h5:c5=zA (l5+shr .i64 c4 16))(h6:c6=zA (l6+shr .i64 c5 16))(h7:c7=zA (l7+shr .i64 c6 16))(h8:c8=zA (l8+shr .i64 c7 16)):
  sS 1000 [l0,l1,l2,l3,l4,l5,l6,l7,l8]=some [qI .i64 l0 65535,qI .i64 c1 65535,qI .i64 c2 65535,qI .i64 c3 65535,qI .i64 c4 65535,qI .i64 c5 65535,qI .i64 c6 65535,qI .i64 c7 65535,c8]:=by
 subst h8;subst h7;subst h6;subst h5;subst h4;subst h3;subst h2;subst h1
 kernel_rfl
theorem Sj {l0 l1 l2 l3 l4 l5 l6 l7 l8:Int}(g0:0≤l0∧l0≤1099511627776)(g1:0≤l1∧l1≤1099511627776)(g2:0≤l2∧l2≤1099511627776)(g3:0≤l3∧l3≤1099511627776)(g4:0≤l4∧l4≤1099511627776)(g5:0≤l5∧l5≤1099511627776)(g6:0≤l6∧l6≤1099511627776)(g7:0≤l7∧l7≤1099511627776)(g8:0≤l8∧l8≤1099511627776):∃d0 d1 d2 d3 d4 d5 d6 d7 d8,
  sS 1000 [l0,l1,l2,l3,l4,l5,l6,l7,l8]=some [d0,d1,d2,d3,d4,d5,d6,d7,d8]∧V9 d0 d1 d2 d3 d4 d5 d6 d7 d8=V9 l0 l1 l2 l3 l4 l5 l6 l7 l8∧(0≤d0∧d0<65536)∧(0≤d1∧d1<65536)∧(0≤d2∧d2<65536)∧(0≤d3∧d3<65536)∧(0≤d4∧d4<65536)∧(0≤d5∧d5<65536)∧(0≤d6∧d6<65536)∧(0≤d7∧d7<65536)∧0≤d8:=by
 obtain⟨c1,Gw⟩:∃c,c=l1+l0/65536:=⟨_,rfl⟩;have b1:0≤c1∧c1≤2199023255552:=by omega
 have h1:c1=zA (l1+shr .i64 l0 16):=by rw[jv,←Gw,zR (by omega) (by omega)]
 obtain⟨c2,FA⟩:∃c,c=l2+c1/65536:=⟨_,rfl⟩;have b2:0≤c2∧c2≤2199023255552:=by omega
 have h2:c2=zA (l2+shr .i64 c1 16):=by rw[jv,←FA,zR (by omega) (by omega)]
 obtain⟨c3,AT⟩:∃c,c=l3+c2/65536:=⟨_,rfl⟩;have b3:0≤c3∧c3≤2199023255552:=by omega
 have h3:c3=zA (l3+shr .i64 c2 16):=by rw[jv,←AT,zR (by omega) (by omega)]
 obtain⟨c4,Gx⟩:∃c,c=l4+c3/65536:=⟨_,rfl⟩;have b4:0≤c4∧c4≤2199023255552:=by omega
 have h4:c4=zA (l4+shr .i64 c3 16):=by rw[jv,←Gx,zR (by omega) (by omega)]
 obtain⟨c5,Gy⟩:∃c,c=l5+c4/65536:=⟨_,rfl⟩;have b5:0≤c5∧c5≤2199023255552:=by omega
 have h5:c5=zA (l5+shr .i64 c4 16):=by rw[jv,←Gy,zR (by omega) (by omega)]
 obtain⟨c6,Gz⟩:∃c,c=l6+c5/65536:=⟨_,rfl⟩;have b6:0≤c6∧c6≤2199023255552:=by omega
 have h6:c6=zA (l6+shr .i64 c5 16):=by rw[jv,←Gz,zR (by omega) (by omega)]
 obtain⟨c7,GA⟩:∃c,c=l7+c6/65536:=⟨_,rfl⟩;have b7:0≤c7∧c7≤2199023255552:=by omega
 have h7:c7=zA (l7+shr .i64 c6 16):=by rw[jv,←GA,zR (by omega) (by omega)]
 obtain⟨c8,hc8⟩:∃c,c=l8+c7/65536:=⟨_,rfl⟩;have b8:0≤c8∧c8≤2199023255552:=by omega
 have h8:c8=zA (l8+shr .i64 c7 16):=by rw[jv,←hc8,zR (by omega) (by omega)]
 have run:=yHz l0 l1 l2 l3 l4 l5 l6 l7 l8 h1 h2 h3 h4 h5 h6 h7 h8;simp only[kZ] at run;refine⟨_,_,_,_,_,_,_,_,_,run,?_,⟨Int.emod_nonneg _ (by decide),Int.emod_lt_of_pos _ (by decide)⟩,⟨Int.emod_nonneg _ (by decide),Int.emod_lt_of_pos _ (by decide)⟩,⟨Int.emod_nonneg _ (by decide),Int.emod_lt_of_pos _ (by decide)⟩,⟨Int.emod_nonneg _ (by decide),Int.emod_lt_of_pos _ (by decide)⟩,⟨Int.emod_nonneg _ (by decide),Int.emod_lt_of_pos _ (by decide)⟩,⟨Int.emod_nonneg _ (by decide),Int.emod_lt_of_pos _ (by decide)⟩,⟨Int.emod_nonneg _ (by decide),Int.emod_lt_of_pos _ (by decide)⟩,⟨Int.emod_nonneg _ (by decide),Int.emod_lt_of_pos _ (by decide)⟩,b8.1⟩;unfold V9;clear run h1 h2 h3 h4 h5 h6 h7 h8;omega
theorem yTa l0 l1 l2 l3 l4 l5 l6 l7 l8 n:BO 1000 [l0,l1,l2,l3,l4,l5,l6,l7,l8] n=sS 1000 [zA (l0*n),zA (l1*n),zA (l2*n),zA (l3*n),zA (l4*n),zA (l5*n),zA (l6*n),zA (l7*n),zA (l8*n)]:=by
 have e:BP 1000 1000 n 0 [l0,l1,l2,l3,l4,l5,l6,l7,l8]=some [zA (l0*n),zA (l1*n),zA (l2*n),zA (l3*n),zA (l4*n),zA (l5*n),zA (l6*n),zA (l7*n),zA (l8*n)]:=by kernel_rfl
 unfold BO;simp_all
theorem yDr l0 l1 l2 l3 l4 l5 l6 l7 l8 n:V9 l0 l1 l2 l3 l4 l5 l6 l7 l8*n=V9 (l0*n) (l1*n) (l2*n) (l3*n) (l4*n) (l5*n) (l6*n) (l7*n) (l8*n):=by
 unfold V9;grind
theorem ySr l0 l1 l2 l3 l4 l5 l6 l7 l8 {x0 x1 x2 x3 x4 x5 x6 x7 x8 r0 r1 r2 r3 r4 r5 r6 r7 r8 r9}(h8:x8=zA (shl .i64 r9 16+l8))(h7:x7=zA (shl .i64 r8 16+l7))(h6:x6=zA (shl .i64 r7 16+l6))(h5:x5=zA (shl .i64 r6 16+l5))(h4:x4=zA (shl .i64 r5 16+l4))(h3:x3=zA (shl .i64 r4 16+l3))(h2:x2=zA (shl .i64 r3 16+l2))(h1:x1=zA (shl .i64 r2 16+l1))(h0:x0=zA (shl .i64 r1 16+l0))(h9:r9=0)(k8:r8=Int.tmod x8 10000)(k7:r7=Int.tmod x7 10000)(k6:r6=Int.tmod x6 10000)(k5:r5=Int.tmod x5 10000)(k4:r4=Int.tmod x4 10000)(k3:r3=Int.tmod x3 10000)(k2:r2=Int.tmod x2 10000)(k1:r1=Int.tmod x1 10000)(k0:r0=Int.tmod x0 10000):
  xo 1000 1000 10000 0 8 [l0,l1,l2,l3,l4,l5,l6,l7,l8]=some [zA (Int.tdiv x0 10000),zA (Int.tdiv x1 10000),zA (Int.tdiv x2 10000),zA (Int.tdiv x3 10000),zA (Int.tdiv x4 10000),zA (Int.tdiv x5 10000),zA (Int.tdiv x6 10000),zA (Int.tdiv x7 10000),zA (Int.tdiv x8 10000)]:=by
 subst h0;subst k1;subst h1;subst k2;subst h2;subst k3;subst h3;subst k4;subst h4;subst k5;subst h5;subst k6;subst h6;subst k7;subst h7;subst k8;subst h8;subst h9
 kernel_rfl
theorem la x:shl .i64 x 16=zA (x*65536):=rfl
theorem yL2 q0 q1 q2 q3 (h : decide (q3 ≥ 32768) = false) : ((sU 1000 1000 4 [q0,q1,q2,q3,0,0,0,0,0]).bind fun z1=>
 match z1 with
 | .inl z2 => bif zC 3 z2.length then (bif decide ((z2.getD 3 0)≥32768) then some ((0:Int),false)
   else bif zC 3 z2.length then (bif zC 2 z2.length then (bif zC 1 z2.length then (bif zC 0 z2.length then some ((wF .i64 (wF .i64 (wF .i64 (shl .i64 (z2.getD 3 0) 48) (shl .i64 (z2.getD 2 0) 32)) (shl .i64 (z2.getD 1 0) 16)) (z2.getD 0 0)),true)
      else none)
     else none)
    else none)
   else none)
  else none
 |.inr z3=>some (z3.1,z3.2))=some (wF .i64 (wF .i64 (wF .i64 (shl .i64 q3 48) (shl .i64 q2 32)) (shl .i64 q1 16)) q0,true):=by
  have e:sU 1000 1000 4 [q0,q1,q2,q3,0,0,0,0,0]=some (.inl [q0,q1,q2,q3,0,0,0,0,0]):=by rfl
  rw[e];simp only[aG];have e3:([q0,q1,q2,q3,0,0,0,0,0]:AC).getD 3 0=q3:=rfl;rw[e3,h];rfl
theorem yJn {q0 q1 q2 q3}(h0:0≤q0∧q0<65536)(h1:0≤q1∧q1<65536)(h2:0≤q2∧q2<65536)(h3:0≤q3∧q3<32768):
  wF .i64 (wF .i64 (wF .i64 (shl .i64 q3 48) (shl .i64 q2 32)) (shl .i64 q1 16)) q0=q0+65536*(q1+65536*(q2+65536*q3)):=by
 have s3:shl .i64 q3 48=zA (q3*281474976710656):=rfl;have s2:shl .i64 q2 32=zA (q2*4294967296):=rfl;have s1:shl .i64 q1 16=zA (q1*65536):=rfl;rw[s3,s2,s1,zR (x:=q3*281474976710656) (by omega) (by omega),zR (x:=q2*4294967296) (by omega) (by omega),zR (x:=q1*65536) (by omega) (by omega)];have b1:=HO 48 (by decide) (x:=q3) (y:=q2*4294967296) h3.1 (by omega) (by omega);have p48:(2:Int)^48=281474976710656:=rfl;rw[p48] at b1;have b2:=HO 32 (by decide) (x:=q3*65536+q2) (y:=q1*65536) (by omega) (by omega) (by omega);have p32:(2:Int)^32=4294967296:=rfl;rw[p32] at b2;have b3:=HO 16 (by decide) (x:=(q3*65536+q2)*65536+q1) (y:=q0) (by omega) (by omega) (by omega);grind
theorem yJ1 {l0 l1 l2 l3 l4 l5 l6 l7 l8}(g0:0≤l0∧l0<65536)(g1:0≤l1∧l1<65536)(g2:0≤l2∧l2<65536)(g3:0≤l3∧l3<65536)(g4:0≤l4∧l4<65536)(g5:0≤l5∧l5<65536)(g6:0≤l6∧l6<65536)(g7:0≤l7∧l7<65536)(g8:0≤l8∧l8≤0)(hV:V9 l0 l1 l2 l3 l4 l5 l6 l7 l8/10000≤1152921504606846976):BQ 1000 [l0,l1,l2,l3,l4,l5,l6,l7,l8] 10000=some (V9 l0 l1 l2 l3 l4 l5 l6 l7 l8/10000,true):=by
  obtain⟨r9,h9⟩:∃r:Int,r=0:=⟨_,rfl⟩;obtain⟨x8,hx8⟩:∃x,x=r9*65536+l8:=⟨_,rfl⟩;obtain⟨r8,hr8⟩:∃r,r=x8%10000:=⟨_,rfl⟩;obtain⟨q8,hq8⟩:∃q,q=x8/10000:=⟨_,rfl⟩;have v8:x8=10000*q8+r8∧0≤r8∧r8<10000∧0≤x8∧x8<655360000:=by omega
  have h8:x8=zA (shl .i64 r9 16+l8):=by rw[la,zR (x:=r9*65536) (by omega) (by omega),←hx8,zR (by omega) (by omega)]
  have k8:r8=Int.tmod x8 10000:=by rw[Int.tmod_eq_emod_of_nonneg (by omega)];exact hr8
  have t8:zA (Int.tdiv x8 10000)=q8:=by rw[Int.tdiv_eq_ediv_of_nonneg (by omega),←hq8,zR (by omega) (by omega)]
  obtain⟨x7,hx7⟩:∃x,x=r8*65536+l7:=⟨_,rfl⟩;obtain⟨r7,hr7⟩:∃r,r=x7%10000:=⟨_,rfl⟩;obtain⟨q7,hq7⟩:∃q,q=x7/10000:=⟨_,rfl⟩;have v7:x7=10000*q7+r7∧0≤r7∧r7<10000∧0≤x7∧x7<655360000:=by omega
  have h7:x7=zA (shl .i64 r8 16+l7):=by rw[la,zR (x:=r8*65536) (by omega) (by omega),←hx7,zR (by omega) (by omega)]
  have k7:r7=Int.tmod x7 10000:=by rw[Int.tmod_eq_emod_of_nonneg (by omega)];exact hr7
  have t7:zA (Int.tdiv x7 10000)=q7:=by rw[Int.tdiv_eq_ediv_of_nonneg (by omega),←hq7,zR (by omega) (by omega)]
  obtain⟨x6,AW⟩:∃x,x=r7*65536+l6:=⟨_,rfl⟩;obtain⟨r6,hr6⟩:∃r,r=x6%10000:=⟨_,rfl⟩;obtain⟨q6,hq6⟩:∃q,q=x6/10000:=⟨_,rfl⟩;have v6:x6=10000*q6+r6∧0≤r6∧r6<10000∧0≤x6∧x6<655360000:=by omega
  have h6:x6=zA (shl .i64 r7 16+l6):=by rw[la,zR (x:=r7*65536) (by omega) (by omega),←AW,zR (by omega) (by omega)]
  have k6:r6=Int.tmod x6 10000:=by rw[Int.tmod_eq_emod_of_nonneg (by omega)];exact hr6
  have t6:zA (Int.tdiv x6 10000)=q6:=by rw[Int.tdiv_eq_ediv_of_nonneg (by omega),←hq6,zR (by omega) (by omega)]
  obtain⟨x5,hx5⟩:∃x,x=r6*65536+l5:=⟨_,rfl⟩;obtain⟨r5,hr5⟩:∃r,r=x5%10000:=⟨_,rfl⟩;obtain⟨q5,hq5⟩:∃q,q=x5/10000:=⟨_,rfl⟩;have v5:x5=10000*q5+r5∧0≤r5∧r5<10000∧0≤x5∧x5<655360000:=by omega
  have h5:x5=zA (shl .i64 r6 16+l5):=by rw[la,zR (x:=r6*65536) (by omega) (by omega),←hx5,zR (by omega) (by omega)]
  have k5:r5=Int.tmod x5 10000:=by rw[Int.tmod_eq_emod_of_nonneg (by omega)];exact hr5
  have t5:zA (Int.tdiv x5 10000)=q5:=by rw[Int.tdiv_eq_ediv_of_nonneg (by omega),←hq5,zR (by omega) (by omega)]
  obtain⟨x4,hx4⟩:∃x,x=r5*65536+l4:=⟨_,rfl⟩;obtain⟨r4,hr4⟩:∃r,r=x4%10000:=⟨_,rfl⟩;obtain⟨q4,hq4⟩:∃q,q=x4/10000:=⟨_,rfl⟩;have v4:x4=10000*q4+r4∧0≤r4∧r4<10000∧0≤x4∧x4<655360000:=by omega
  have h4:x4=zA (shl .i64 r5 16+l4):=by rw[la,zR (x:=r5*65536) (by omega) (by omega),←hx4,zR (by omega) (by omega)]
  have k4:r4=Int.tmod x4 10000:=by rw[Int.tmod_eq_emod_of_nonneg (by omega)];exact hr4
  have t4:zA (Int.tdiv x4 10000)=q4:=by rw[Int.tdiv_eq_ediv_of_nonneg (by omega),←hq4,zR (by omega) (by omega)]
  obtain⟨x3,HP⟩:∃x,x=r4*65536+l3:=⟨_,rfl⟩;obtain⟨r3,hr3⟩:∃r,r=x3%10000:=⟨_,rfl⟩;obtain⟨q3,hq3⟩:∃q,q=x3/10000:=⟨_,rfl⟩;have v3:x3=10000*q3+r3∧0≤r3∧r3<10000∧0≤x3∧x3<655360000:=by omega
  have h3:x3=zA (shl .i64 r4 16+l3):=by rw[la,zR (x:=r4*65536) (by omega) (by omega),←HP,zR (by omega) (by omega)]
  have k3:r3=Int.tmod x3 10000:=by rw[Int.tmod_eq_emod_of_nonneg (by omega)];exact hr3
  have t3:zA (Int.tdiv x3 10000)=q3:=by rw[Int.tdiv_eq_ediv_of_nonneg (by omega),←hq3,zR (by omega) (by omega)]
  obtain⟨x2,qx⟩:∃x,x=r3*65536+l2:=⟨_,rfl⟩;obtain⟨r2,iR⟩:∃r,r=x2%10000:=⟨_,rfl⟩;obtain⟨q2,hq2⟩:∃q,q=x2/10000:=⟨_,rfl⟩;have v2:x2=10000*q2+r2∧0≤r2∧r2<10000∧0≤x2∧x2<655360000:=by omega
  have h2:x2=zA (shl .i64 r3 16+l2):=by rw[la,zR (x:=r3*65536) (by omega) (by omega),←qx,zR (by omega) (by omega)]
  have k2:r2=Int.tmod x2 10000:=by rw[Int.tmod_eq_emod_of_nonneg (by omega)];exact iR
  have t2:zA (Int.tdiv x2 10000)=q2:=by rw[Int.tdiv_eq_ediv_of_nonneg (by omega),←hq2,zR (by omega) (by omega)]
  obtain⟨x1,uC⟩:∃x,x=r2*65536+l1:=⟨_,rfl⟩;obtain⟨r1,nP⟩:∃r,r=x1%10000:=⟨_,rfl⟩;obtain⟨q1,hq1⟩:∃q,q=x1/10000:=⟨_,rfl⟩;have v1:x1=10000*q1+r1∧0≤r1∧r1<10000∧0≤x1∧x1<655360000:=by omega
  have h1:x1=zA (shl .i64 r2 16+l1):=by rw[la,zR (x:=r2*65536) (by omega) (by omega),←uC,zR (by omega) (by omega)]
  have k1:r1=Int.tmod x1 10000:=by rw[Int.tmod_eq_emod_of_nonneg (by omega)];exact nP
  have t1:zA (Int.tdiv x1 10000)=q1:=by rw[Int.tdiv_eq_ediv_of_nonneg (by omega),←hq1,zR (by omega) (by omega)]
  obtain⟨x0,HQ⟩:∃x,x=r1*65536+l0:=⟨_,rfl⟩;obtain⟨r0,lK⟩:∃r,r=x0%10000:=⟨_,rfl⟩;obtain⟨q0,hq0⟩:∃q,q=x0/10000:=⟨_,rfl⟩;have v0:x0=10000*q0+r0∧0≤r0∧r0<10000∧0≤x0∧x0<655360000:=by omega
  have h0:x0=zA (shl .i64 r1 16+l0):=by rw[la,zR (x:=r1*65536) (by omega) (by omega),←HQ,zR (by omega) (by omega)]
  have k0:r0=Int.tmod x0 10000:=by rw[Int.tmod_eq_emod_of_nonneg (by omega)];exact lK
  have t0:zA (Int.tdiv x0 10000)=q0:=by rw[Int.tdiv_eq_ediv_of_nonneg (by omega),←hq0,zR (by omega) (by omega)]
  have run:=ySr l0 l1 l2 l3 l4 l5 l6 l7 l8 h8 h7 h6 h5 h4 h3 h2 h1 h0 h9 k8 k7 k6 k5 k4 k3 k2 k1 k0;rw[t0,t1,t2,t3,t4,t5,t6,t7,t8] at run;clear h0 k0 t0 h1 k1 t1 h2 k2 t2 h3 k3 t3 h4 k4 t4 h5 k5 t5 h6 k6 t6 h7 k7 t7 h8 k8 t8;have hv:10000*V9 q0 q1 q2 q3 q4 q5 q6 q7 q8+r0=V9 l0 l1 l2 l3 l4 l5 l6 l7 l8:=by unfold V9;omega
  have hq:V9 q0 q1 q2 q3 q4 q5 q6 q7 q8=V9 l0 l1 l2 l3 l4 l5 l6 l7 l8/10000:=by omega
  rw[←hq] at hV⊢;unfold V9 at hV;have z8:q8=0:=by omega
  have z7:q7=0:=by omega
  have z6:q6=0:=by omega
  have z5:q5=0:=by omega
  have z4:q4=0:=by omega
  have z3:q3<32768:=by omega
  rw[z4,z5,z6,z7,z8] at run;have eU:BQ 1000 [l0,l1,l2,l3,l4,l5,l6,l7,l8] 10000=(xo 1000 1000 10000 0 8 [l0,l1,l2,l3,l4,l5,l6,l7,l8]).bind fun z=>(sU 1000 1000 4 z).bind fun z1=>
   match z1 with
   | .inl z2 => bif zC 3 z2.length then (bif decide ((z2.getD 3 0)≥32768) then some ((0:Int),false)
     else bif zC 3 z2.length then (bif zC 2 z2.length then (bif zC 1 z2.length then (bif zC 0 z2.length then some ((wF .i64 (wF .i64 (wF .i64 (shl .i64 (z2.getD 3 0) 48) (shl .i64 (z2.getD 2 0) 32)) (shl .i64 (z2.getD 1 0) 16)) (z2.getD 0 0)),true)
        else none)
       else none)
      else none)
     else none)
    else none
   |.inr z3=>some (z3.1,z3.2):=rfl
  rw[eU,run];simp only[aG];refine(yL2 q0 q1 q2 q3 (an (by omega))).trans ?_;rw[yJn ⟨by omega,by omega⟩ ⟨by omega,by omega⟩ ⟨by omega,by omega⟩ ⟨by omega,z3⟩];unfold V9;rw[z4,z5,z6,z7,z8];exact by simp
theorem yKp (a b x0 x1 x2 x3:Int):BR 1000 1000 b 0 [x0,x1,x2,x3] [0,0,0,0,0,0,0,0,0]=some [zA (0+zA (x0*qI .i64 (shr .i64 b 0) 65535)),zA (zA (0+zA (x0*qI .i64 (shr .i64 b 16) 65535))+zA (x1*qI .i64 (shr .i64 b 0) 65535)),zA (zA (zA (0+zA (x0*qI .i64 (shr .i64 b 32) 65535))+zA (x1*qI .i64 (shr .i64 b 16) 65535))+zA (x2*qI .i64 (shr .i64 b 0) 65535)),zA (zA (zA (zA (0+zA (x0*qI .i64 (shr .i64 b 48) 65535))+zA (x1*qI .i64 (shr .i64 b 32) 65535))+zA (x2*qI .i64 (shr .i64 b 16) 65535))+zA (x3*qI .i64 (shr .i64 b 0) 65535)),zA (zA (zA (0+zA (x1*qI .i64 (shr .i64 b 48) 65535))+zA (x2*qI .i64 (shr .i64 b 32) 65535))+zA (x3*qI .i64 (shr .i64 b 16) 65535)),zA (zA (0+zA (x2*qI .i64 (shr .i64 b 48) 65535))+zA (x3*qI .i64 (shr .i64 b 32) 65535)),zA (0+zA (x3*qI .i64 (shr .i64 b 48) 65535)),0,0]:=by kernel_rfl
theorem yRo {x0 x1 x2 x3 y0 y1 y2 y3}:(x0+65536*x1+4294967296*x2+281474976710656*x3)*(y0+65536*y1+4294967296*y2+281474976710656*y3)=V9 (x0*y0) (x0*y1+x1*y0) (x0*y2+x1*y1+x2*y0) (x0*y3+x1*y2+x2*y1+x3*y0) (x1*y3+x2*y2+x3*y1) (x2*y3+x3*y2) (x3*y3) 0 0:=by
 have row:∀x:Int,x*(y0+65536*y1+4294967296*y2+281474976710656*y3)=x*y0+65536*(x*y1)+4294967296*(x*y2)+281474976710656*(x*y3):=by grind
 rw[Int.add_mul,Int.add_mul,Int.add_mul,Int.mul_assoc,Int.mul_assoc,Int.mul_assoc,row,row,row,row];unfold V9;omega
theorem yNo {a b}(ha:0≤a∧a≤1048576)(hb:0≤b∧b≤1099511627776):∃d0 d1 d2 d3 d4 d5 d6 d7 d8,
  BS 1000 a b=some [d0,d1,d2,d3,d4,d5,d6,d7,d8]∧V9 d0 d1 d2 d3 d4 d5 d6 d7 d8=a*b∧(0≤d0∧d0<65536)∧(0≤d1∧d1<65536)∧(0≤d2∧d2<65536)∧(0≤d3∧d3<65536)∧(0≤d4∧d4<65536)∧(0≤d5∧d5<65536)∧(0≤d6∧d6<65536)∧(0≤d7∧d7<65536)∧d8=0:=by
 obtain⟨x0,HQ⟩:∃z,z=a%65536:=⟨_,rfl⟩;have mB:0≤x0∧x0≤65535:=by omega
 obtain⟨x1,uC⟩:∃z,z=a/65536%65536:=⟨_,rfl⟩;have mC:0≤x1∧x1≤65535:=by omega
 obtain⟨x2,qx⟩:∃z,z=a/4294967296%65536:=⟨_,rfl⟩;have mD:0≤x2∧x2≤65535:=by omega
 obtain⟨x3,HP⟩:∃z,z=a/281474976710656%65536:=⟨_,rfl⟩;have mE:0≤x3∧x3≤65535:=by omega
 obtain⟨y0,Fe⟩:∃z,z=b%65536:=⟨_,rfl⟩;have mF:0≤y0∧y0≤65535:=by omega
 obtain⟨y1,FH⟩:∃z,z=b/65536%65536:=⟨_,rfl⟩;have mG:0≤y1∧y1≤65535:=by omega
 obtain⟨y2,FI⟩:∃z,z=b/4294967296%65536:=⟨_,rfl⟩;have mH:0≤y2∧y2≤65535:=by omega
 obtain⟨y3,hy3⟩:∃z,z=b/281474976710656%65536:=⟨_,rfl⟩;have mI:0≤y3∧y3≤65535:=by omega
 have ea:a=x0+65536*x1+4294967296*x2+281474976710656*x3:=by omega
 have eb:b=y0+65536*y1+4294967296*y2+281474976710656*y3:=by omega
 have dg:BU 1000 a=some [x0,x1,x2,x3]:=by
  unfold BU;rw[jv,Sh,Si,kZ,kZ,kZ,kZ,←HQ,←uC,←qx,←HP]
 have run:=yKp a b x0 x1 x2 x3;rw[yBq,jv,Sh,Si,kZ,kZ,kZ,kZ,←Fe,←FH,←FI,←hy3] at run;have qf:=yRo (x0:=x0) (x1:=x1) (x2:=x2) (x3:=x3) (y0:=y0) (y1:=y1) (y2:=y2) (y3:=y3);rw[←ea,←eb] at qf;have hm:=yI ha.1 ha.2 hb.1 hb.2;have m00:=yI mB.1 mB.2 mF.1 mF.2;have m01:=yI mB.1 mB.2 mG.1 mG.2;have m02:=yI mB.1 mB.2 mH.1 mH.2;have m03:=yI mB.1 mB.2 mI.1 mI.2;have m10:=yI mC.1 mC.2 mF.1 mF.2;have m11:=yI mC.1 mC.2 mG.1 mG.2;have m12:=yI mC.1 mC.2 mH.1 mH.2;have m13:=yI mC.1 mC.2 mI.1 mI.2;have m20:=yI mD.1 mD.2 mF.1 mF.2;have m21:=yI mD.1 mD.2 mG.1 mG.2;have m22:=yI mD.1 mD.2 mH.1 mH.2;have m23:=yI mD.1 mD.2 mI.1 mI.2;have m30:=yI mE.1 mE.2 mF.1 mF.2;have m31:=yI mE.1 mE.2 mG.1 mG.2;have m32:=yI mE.1 mE.2 mH.1 mH.2;have m33:=yI mE.1 mE.2 mI.1 mI.2;generalize x0*y0=HR at*
 generalize x0*y1=BV at*
 generalize x0*y2=xp at*
 generalize x0*y3=sV at*
 generalize x1*y0=HS at*
 generalize x1*y1=BW at*
 generalize x1*y2=xq at*
 generalize x1*y3=xr at*
 generalize x2*y0=HT at*
 generalize x2*y1=BX at*
 generalize x2*y2=BY at*
 generalize x2*y3=BZ at*
 generalize x3*y0=HU at*
 generalize x3*y1=HV at*
 generalize x3*y2=HW at*
 generalize x3*y3=HX at*
 rw[zR (x:=HR) (by omega) (by omega)] at run;rw[zR (x:=BV) (by omega) (by omega)] at run;rw[zR (x:=xp) (by omega) (by omega)] at run;rw[zR (x:=sV) (by omega) (by omega)] at run;rw[zR (x:=HS) (by omega) (by omega)] at run;rw[zR (x:=BW) (by omega) (by omega)] at run;rw[zR (x:=xq) (by omega) (by omega)] at run;rw[zR (x:=xr) (by omega) (by omega)] at run;rw[zR (x:=HT) (by omega) (by omega)] at run;rw[zR (x:=BX) (by omega) (by omega)] at run;rw[zR (x:=BY) (by omega) (by omega)] at run;rw[zR (x:=BZ) (by omega) (by omega)] at run;rw[zR (x:=HU) (by omega) (by omega)] at run;rw[zR (x:=HV) (by omega) (by omega)] at run;rw[zR (x:=HW) (by omega) (by omega)] at run;rw[zR (x:=HX) (by omega) (by omega)] at run;rw[zR (x:=0+HR) (by omega) (by omega)] at run;rw[zR (x:=0+BV) (by omega) (by omega)] at run;rw[zR (x:=0+xp) (by omega) (by omega)] at run;rw[zR (x:=0+sV) (by omega) (by omega)] at run;rw[zR (x:=0+BV+HS) (by omega) (by omega)] at run;rw[zR (x:=0+xp+BW) (by omega) (by omega)] at run;rw[zR (x:=0+sV+xq) (by omega) (by omega)] at run;rw[zR (x:=0+xr) (by omega) (by omega)] at run;rw[zR (x:=0+xp+BW+HT) (by omega) (by omega)] at run;rw[zR (x:=0+sV+xq+BX) (by omega) (by omega)] at run;rw[zR (x:=0+xr+BY) (by omega) (by omega)] at run;rw[zR (x:=0+BZ) (by omega) (by omega)] at run;rw[zR (x:=0+sV+xq+BX+HU) (by omega) (by omega)] at run;rw[zR (x:=0+xr+BY+HV) (by omega) (by omega)] at run;rw[zR (x:=0+BZ+HW) (by omega) (by omega)] at run;rw[zR (x:=0+HX) (by omega) (by omega)] at run;obtain⟨d0,d1,d2,d3,d4,d5,d6,d7,d8,c1,c2,n0,n1,n2,n3,n4,n5,n6,n7,n8⟩:=Sj (l0:=0+HR) (l1:=0+BV+HS) (l2:=0+xp+BW+HT) (l3:=0+sV+xq+BX+HU) (l4:=0+xr+BY+HV) (l5:=0+BZ+HW) (l6:=0+HX) (l7:=0) (l8:=0) (by omega) (by omega) (by omega) (by omega) (by omega) (by omega) (by omega) (by omega) (by omega);refine⟨d0,d1,d2,d3,d4,d5,d6,d7,d8,?_,?_,n0,n1,n2,n3,n4,n5,n6,n7,?_⟩
 ·unfold BS;rw[dg];simp only[aG];rw[run];simp only[aG];rw[c1];rfl
 ·rw[c2,qf];unfold V9;omega
 ·have:V9 d0 d1 d2 d3 d4 d5 d6 d7 d8=a*b:=by
   rw[c2,qf];unfold V9;omega
  unfold V9 at this;omega
theorem yS8 {p m c:Int}(hp:0≤p∧p≤1048576)(hm:0≤m∧m≤1099511627776)(hc:0≤c∧c≤10000):B1 1000 p m c=some (kX p m c,true):=by
 obtain⟨d0,d1,d2,d3,d4,d5,d6,d7,d8,e1,e2,n0,n1,n2,n3,n4,n5,n6,n7,n8⟩:=yNo hp hm;have Sk:=yI hp.1 hp.2 hm.1 hm.2;have hn:0≤10000-c∧10000-c≤10000:=by omega
 have wn:zA (10000-c)=10000-c:=zR (by omega) (by omega);have hw:=Sa hp hm hc;unfold kX at hw⊢;have hpn:=yI Sk.1 Sk.2 hn.1 hn.2;have eV:=yDr d0 d1 d2 d3 d4 d5 d6 d7 d8 (10000-c);rw[e2] at eV;unfold B1;rw[an (show¬p<0 by omega),an (show¬m<0 by omega),an (show¬c<0 by omega),an (show¬c>10000 by omega),e1,wn];simp only[aU,aG];rw[yTa];generalize 10000-c=n at*
 have u0:=yI n0.1 (show d0≤65535 by omega) hn.1 hn.2;have u1:=yI n1.1 (show d1≤65535 by omega) hn.1 hn.2;have u2:=yI n2.1 (show d2≤65535 by omega) hn.1 hn.2;have u3:=yI n3.1 (show d3≤65535 by omega) hn.1 hn.2;have u4:=yI n4.1 (show d4≤65535 by omega) hn.1 hn.2;have u5:=yI n5.1 (show d5≤65535 by omega) hn.1 hn.2;have u6:=yI n6.1 (show d6≤65535 by omega) hn.1 hn.2;have u7:=yI n7.1 (show d7≤65535 by omega) hn.1 hn.2;have u8:0≤d8*n∧d8*n≤0:=by rw[n8,Int.zero_mul];omega
 generalize d0*n=t0 at*
 generalize d1*n=t1 at*
 generalize d2*n=t2 at*
 generalize d3*n=t3 at*
 generalize d4*n=t4 at*
 generalize d5*n=t5 at*
 generalize d6*n=t6 at*
 generalize d7*n=t7 at*
 generalize d8*n=t8 at*
 rw[zR (x:=t0) (by omega) (by omega),zR (x:=t1) (by omega) (by omega),zR (x:=t2) (by omega) (by omega),zR (x:=t3) (by omega) (by omega),zR (x:=t4) (by omega) (by omega),zR (x:=t5) (by omega) (by omega),zR (x:=t6) (by omega) (by omega),zR (x:=t7) (by omega) (by omega),zR (x:=t8) (by omega) (by omega)];obtain⟨e0,e1,e2,e3,e4,e5,e6,e7,e8,f1,f2,k0,k1,k2,k3,k4,k5,k6,k7,k8⟩:=Sj (l0:=t0) (l1:=t1) (l2:=t2) (l3:=t3) (l4:=t4) (l5:=t5) (l6:=t6) (l7:=t7) (l8:=t8) (by omega) (by omega) (by omega) (by omega) (by omega) (by omega) (by omega) (by omega) (by omega);rw[f1];simp only[aG];rw[←eV] at f2;have z8:e8≤0:=by unfold V9 at f2;omega
 rw[yJ1 k0 k1 k2 k3 k4 k5 k6 k7 ⟨k8,z8⟩ (by rw[f2];exact hw.2),f2];rfl
theorem yEb k x y:B2 k x.1 x.2.1 x.2.2.1 x.2.2.2.1 x.2.2.2.2.1 x.2.2.2.2.2.1 x.2.2.2.2.2.2 y.1 y.2.1 y.2.2.1 y.2.2.2.1 y.2.2.2.2.1 y.2.2.2.2.2.1 y.2.2.2.2.2.2=some (jW x y):=by
 unfold B2 jW;grind
theorem yIn k {a b}(ha:0≤a∧a≤4611686018427387904)(hb:0≤b∧b≤1152921504606846976):B3 k a b=some (a+b,true):=by
 unfold B3;rw[zR (x:=a+b) (by omega) (by omega),zR (x:=9223372036854775807-b) (by omega) (by omega),an (show¬a>9223372036854775807-b by omega),an (show¬b<0 by omega)];simp
theorem yIi {sa pr h}(L:jq sa pr h):B4 1000 sa pr h=some (im sa pr h,true):=by
 have h3:=L.n3;obtain ⟨s', g1, g2⟩ := hZ (L := fun n i (v : Int) => xu 1000 n sa pr h v i) (N := sa.length) (fun v => (.inl v : Int ⊕ Int × Bool)) (fun i v => v = qF (gn sa pr h) i) (fun n v _=>by
  show sW 1000 _ sa pr h v (sa.length:Int)=_;unfold sW;simp) (fun n i v hi hv=>by
  refine⟨v+gn sa pr h i,?_,by rw[hv];rfl⟩;show sW 1000 (xu 1000 n) sa pr h v (i:Int)=_;unfold sW;have hw:=BH L hi;have hb:=HA (g:=gn sa pr h) (n:=i) (fun j hj=>BH L (by omega));have ed:sa.getD i (0,0)=sa.getD i wJ:=rfl;rw[ai (by grind),qG,qG,qG,ai hi,ai (show i<pr.length by rw[L.pl];exact hi),ai (show i<h.length by rw[L.hl];exact hi),bh,ed,yS8 (L.price i hi) (L.hold i hi) (L.cut i hi)];simp only[aG];have e:kX (pr.getD i 0) (h.getD i 0) (sa.getD i wJ).2=gn sa pr h i:=rfl;rw[e,yIn _ (by omega) hw,qW hi (by omega)];rfl) (n:=1000) (s:=0) (by omega) rfl
 unfold B4;rw[ai (show(pr.length:Int)=(sa.length:Int) by rw[L.pl]),ai (show(h.length:Int)=(sa.length:Int) by rw[L.hl]),g1,g2];rfl
theorem B5 {α:Type}{d}(l:List α){i} h:l.getD i d=l[i]:=by
 simp_all
theorem Sl (q p:zQ):mu q p= !jW p q:=by
 unfold mu jW;rcases Int.lt_trichotomy q.2.1 p.2.1 with h|h|h
 ·have h1:¬p.2.1<q.2.1:=by omega
  have h2:¬p.2.1=q.2.1:=by omega
  simp[h,h1,h2]
 ·rcases Int.lt_trichotomy q.2.2.2.2.1 p.2.2.2.2.1 with g|g|g
  ·have g1:¬p.2.2.2.2.1≤q.2.2.2.2.1:=by omega
   simp[h,g,g1]
  ·simp[h,g]
  ·have g1:¬q.2.2.2.2.1<p.2.2.2.2.1:=by omega
   have g2:p.2.2.2.2.1≤q.2.2.2.2.1:=by omega
   simp[h,g1,g2]
 ·have h1:¬q.2.1<p.2.1:=by omega
  have h2:¬q.2.1=p.2.1:=by omega
  simp[h,h1,h2]
theorem yPw {q p}:jW q p=true↔q.2.1<p.2.1∨(q.2.1=p.2.1∧q.2.2.2.2.1≤p.2.2.2.2.1):=by
 unfold jW;simp
theorem yFn {q p}:mu q p=true↔q.2.1<p.2.1∨(q.2.1=p.2.1∧q.2.2.2.2.1<p.2.2.2.2.1):=by
 unfold mu;simp
theorem xm.cut {l}(h:xm l) x:xm (fg l x):=List.Pairwise.sublist (Bw l x) h
theorem mA.sub {n m m' ids}(h:mA n m ids)(hs:List.Sublist m' m):mA n m' ids:=
 ⟨List.Pairwise.sublist hs h.dist,by have:=hs.length_le;have:=h.len;omega,List.Pairwise.sublist hs h.sort,fun p hp=>h.may p (by grind),fun p hp=>h.time p (by grind),fun p hp=>h.were p (by grind),h.asc,h.pos,h.idl⟩
theorem mA.turn {n:Nat}{m:List zQ}{ids:AC}(h:mA n m ids){x:Nat}(hx:x<m.length){p:zQ}{m':List zQ}(hp:List.Perm m' (p::fg m x))(hs:xm m')(h1:p.1=(m.getD x pd).1)
  (h2:jV n p) (h3:0≤p.2.2.2.2.2.1∧p.2.2.2.2.2.1≤p.2.2.2.2.2.2∧p.2.2.2.2.2.2≤1048576):mA n m' ids:=by
 have hc:=Bw m x;have hl:=R3 hx;have hd:vC (p::fg m x):=by
  refine List.pairwise_cons.2 ⟨fun q hq=>?_,h.dist.cut x⟩;rw[h1];have hd:=h.dist;unfold vC at hd;rw[R0 m x pd hx] at hd;have Sm:=List.pairwise_append.1 hd;have hd3:=List.pairwise_cons.1 Sm.2.1;unfold fg at hq;rcases List.mem_append.1 hq with hq|hq
  ·exact fun e=>Sm.2.2 _ hq _ (List.mem_cons_self ..) e.symm
  ·exact hd3.1 _ hq
 have hlen:=hp.length_eq;rw[List.length_cons] at hlen;refine⟨hd.perm hp,by have:=h.len;omega,hs,fun q hq=>?_,fun q hq=>?_,fun q hq=>?_,h.asc,h.pos,h.idl⟩;all_goals rcases List.mem_cons.1 (hp.subset hq) with rfl|sJ
 ·exact h2
 ·exact h.may q (hc.subset sJ)
 ·exact h3
 ·exact h.time q (hc.subset sJ)
 ·rw[h1];exact h.were _ (oL hx)
 ·exact h.were q (hc.subset sJ)
theorem Sn {a}:jG a=true↔(-4611686018427387904<a.1∧a.1<4611686018427387904)∧(0≤a.2.1∧a.2.1≤2305843009213693952)∧(0≤a.2.2∧a.2.2≤2305843009213693952):=by
 unfold jG;grind
abbrev yBr:=Int×sR
def Kd (o:List gq):Prop:=∀x∈o,x.2.1≠16∧x.2.1≠23
theorem Kd.append {a b}(h:Kd a)(g:Kd b):Kd (a++b):=fun x hx=>(List.mem_append.1 hx).elim (h x) (g x)
def oW (o:List gq):Prop:=∀x∈o,x.2.1≠16
theorem Kd.ne {o}(h:Kd o):oW o:=fun x hx=>(h x hx).1
theorem oW.append {a b}(h:oW a)(g:oW b):oW (a++b):=fun x hx=>(List.mem_append.1 hx).elim (h x) (g x)
structure Dlt (r:vK) (s:yK) (f:sR) (t:yK) (l:List gq):Prop where
 inv:Inv r t
 ov:t.ov=s.ov
 HY:l.length≤2
 kd:Kd l
 ids:∀x∈t.ids,x∈s.ids∨x=f.2.1
structure So (r:vK) (s:yK) (f:sR) (t:yK) (o:List gq) (e:Int):Prop where
 inv:Inv r t
 bad:e≠0→t=s∧o=[]
 ne:oW o
 HY:o.length≤200
 ids:∀x∈t.ids,x∈s.ids∨x=f.2.1
theorem So.none {r:vK}{s:yK}{f:sR}(h:Inv r s)(e:Int):So r s f s [] e:=⟨h,fun _=>⟨rfl,rfl⟩,fun x hx=>absurd hx List.not_mem_nil,Nat.zero_le _,fun _ h=>.inl h⟩
structure yTu (r:vK) (s:yK) (BN:Int) (f:sR) (t:yK) (l l':List gq) (xv:Int):Prop where
 Sp:Dlt r s f t l
 told:l=(if BN= -1 then l' else yIz BN 15 0::l')
 xv:xv=if f.1=1 then f.2.1 else 0
 pos:f.1=1→0<f.2.1
def ld (s t:yK):Prop:=∀i,i<s.B.1.length→(t.B.1.getD i ad).1<(s.B.1.getD i ad).1→0≤(t.B.1.getD i ad).1+(t.B.1.getD i ad).2.1
theorem ld.same {s t}(h:∀i,i<s.B.1.length→(t.B.1.getD i ad).1=(s.B.1.getD i ad).1):ld s t:=fun i hi aS=>by simp_all
theorem ld.refl s:ld s s:=ld.same (by simp)
theorem ld.set {s t:yK}{j:Nat}{a:yF}(h:t.B.1=s.B.1.set j a)(ha:a.1<(s.B.1.getD j ad).1→0≤a.1+a.2.1):ld s t:=fun i hi=>by
 rw[h,fJ];split
 ·next h=>rw[←h.1];exact ha
 ·omega
structure yTr (r:vK) (s:yK) (f:sR) (t:yK) (l:List gq):Prop where
 inv:Inv r t
 tk:t.t=s.t
 ov:t.ov=s.ov
 HY:l.length≤2
 to:t.to=s.to+(if f.1=10 then f.2.2.1 else if f.1=11 then-f.2.2.1 else 0)
 fell:ld s t
 kd:Kd l
 ids:∀x∈t.ids,x∈s.ids∨x=f.2.1
structure Did (k:Nat) (r:vK) (s:yK) (c:yBr) (t:yK) (o:List gq) (e:Int):Prop where
 inv:Inv r t
 bad:e≠0→t=s∧o=[]
 to:e=0→t.to=s.to+(if c.2.1=10 then c.2.2.2.1 else if c.2.1=11 then-c.2.2.2.1 else 0)
 still:t=s∨(t.ov=false→mw k t.B (mq t.m t.t)=none)
 fell:ld s t
 ne:oW o
 HY:o.length≤100
 ids:∀x∈t.ids,x∈s.ids∨x=c.2.2.1
instance oX:DecidableEq zQ:=fun a b=>inferInstanceAs (Decidable (a=b))
def xw (r:vK):yK where
 t:=0
 B:=(List.replicate r.1.toNat (0,0,0),List.replicate r.1.toNat (List.replicate r.1.toNat (-1)),List.replicate r.1.toNat (-1),List.replicate r.1.toNat (List.replicate r.1.toNat 0))
 pr:=r.2.1.map Prod.fst
 ho:=List.replicate r.1.toNat (List.replicate r.2.1.length 0)
 m:=[]
 ids:=[]
 to:=0
 ov:=false
structure yRq (r:vK):Prop where
 ok:oV r
 inv:Inv r (xw r)
 new:B6 1000 r=some (xw r).st
 cl:r.2.2.2.1≤20
 Sq:B6 20000 r=some (xw r).st
theorem yHe n:mA n [] [] where
 dist:=List.Pairwise.nil
 len:=by decide
 sort:=List.Pairwise.nil
 may:=by simp
 time:=by simp
 were:=by simp
 asc:=List.Pairwise.nil
 pos:=by simp
 idl:=by decide
def r0:vK:=(3,[(100,1000),(7,0)],12,20,4)
def r1:vK:=(4,[(100,1000),(7,0)],12,20,100)
def r2:vK:=(3,[],20,20,4)
def r3:vK:=(3,[(100,1000),(7,0)],0,6,1)
theorem yGe {pr h}(h1:pr=[100,7])(h2:h=[0,0]):jq [(100,1000),(7,0)] pr h:=by
 subst h1;subst h2;exact⟨by decide,rfl,rfl,by decide,by decide,by decide⟩
theorem yGj {B}(h:eL B.1 B.2.1 B.2.2.1 B.2.2.2=true):ju B:=Bi.1 h
theorem Sr:yRq r0:=⟨⟨by decide,by decide,by decide,by decide,by decide,by decide,by decide⟩,
  { tk:=by decide,bk:=yGj (by rfl),n:=rfl,uF:=rfl,
    laid:=fun i hi=>by
      have e:∀i,i<(xw r0).B.1.length→(xw r0).ho.getD i []=[0,0]:=by decide
      exact yGe rfl (e i hi)
    cred:=by decide,HM:=by decide,waits:=yHe _,sum:=by decide,OT:=by decide,over:=by decide,none:=nofun},by rfl,by decide,by rfl⟩
theorem yKu (k:Nat){h l n:Int}(hh:-4503599627370496≤h∧h≤4503599627370496)(hl:0≤l∧l<4294967296)(hn:-9223372036854775808≤n∧n<9223372036854775808):
  B7 k h l n=some ((h*4294967296+l+n)/4294967296,(h*4294967296+l+n)%4294967296):=by
 unfold B7;rw[Ry n,Rz n,zR (x:=h+n/4294967296) (by omega) (by omega),zR (x:=l+n%4294967296) (by omega) (by omega),Rz,Ry,zR (by omega) (by omega)]
 congr 2
 ·omega
 ·omega
def sX (S:Int):Int×Bool:=if S/4294967296< -2147483648∨S/4294967296≥2147483648 then(0,false) else(S,true)
theorem yMe {k:Nat}{l:AC}(hk:l.length<k)(hl:l.length≤1000000)(hr:∀x∈l,-9223372036854775808≤x∧x<9223372036854775808):xx k l=some (sX (zP (fun x=>x) l)):=by
 obtain ⟨s, h1, h2⟩ := hZ (L := fun c i (s : Int × Int) => xy k c l i s.1 s.2) (N := l.length) (fun s => s) (fun i s => s = (zP (fun x => x) (l.take i) / 4294967296, zP (fun x => x) (l.take i) % 4294967296)) (fun c s hs=>by
   show sY k _ l l.length s.1 s.2=_;unfold sY;simp only [yW, an (Nat.lt_irrefl _), aU]) (fun c i s hi hs=>by
   refine⟨(zP (fun x=>x) (l.take (i+1))/4294967296,zP (fun x=>x) (l.take (i+1))%4294967296),?_,rfl⟩;show sY k _ l i s.1 s.2=_;have hb:=rS (g:=fun x:Int=>x) (A:=9223372036854775808) (l:=l.take i) fun x hx=>by have:=hr x (List.mem_of_mem_take hx);omega
   have hlen:((l.take i).length:Int)≤1000000:=by rw[List.length_take];omega
   have Ss:((l.take i).length:Int)*9223372036854775808≤1000000*9223372036854775808:=by omega
   have e:zP (fun x=>x) (l.take (i+1))=zP (fun x=>x) (l.take i)+l.getD i 0:=by
    rw[←kU l i 0 hi,gk];show _+(l.getD i 0+0)=_;omega
   unfold sY;simp only[qG,qW hi (show l.length<9223372036854775808 by omega),yW,bh,ai hi,aY];rw[hs];dsimp only;rw[yKu k (by omega) (by omega) (hr _ (oL hi))];rw[e];have e2:zP (fun x=>x) (l.take i)/4294967296*4294967296+zP (fun x=>x) (l.take i)%4294967296=zP (fun x=>x) (l.take i):=by omega
   rw[e2];rfl) (s:=(0,0)) hk rfl
 rw[List.take_of_length_le (Nat.le_refl _)] at h2;unfold xx;rw[h1,h2];simp only[aG];unfold sX;generalize zP (fun x=>x) l=S;by_cases c1:S/4294967296< -2147483648
 ·rw[ai c1,if_pos (.inl c1)];rfl
 ·rw[an c1];by_cases c2:S/4294967296≥2147483648
  ·rw[ai c2,if_pos (.inr c2)];rfl
  ·rw[an c2,if_neg (by omega),yDy,zR (x:=S/4294967296*4294967296) (by omega) (by omega),zR (by omega) (by omega)];simp only[aU]
   congr 2
   omega
def ix (m:List zQ)(i:Nat):Bool:=decide (i=0)||jW (m.getD (i-1) pd) (m.getD i pd)
def mJ (m:List zQ):Bool:=zU (fun i=>decide (fK m (m.getD i pd).1=(i:Int))&&ix m i) m.length 0&&decide ((m.length:Int)≤40)
theorem yOn {m:List zQ}(hm:m.length≤900):xz 1000 m=some (mJ m):=by
 have l0 : mK 1000 1000 m 0 = _ := wS (L := fun n i => mK 1000 n m i) (N := m.length) (fun i => decide (fK m (m.getD i pd).1 = (i : Int)) && ix m i) (.inl m) (.inr false) (fun n=>by
  show sZ 1000 (mK 1000 n) m (m.length:Int)=_;unfold sZ;rw[an (Int.lt_irrefl _)];rfl) (fun n i hi=>by
  show sZ 1000 (mK 1000 n) m (i:Int)=_;unfold sZ;have e:m.getD i (0,0,0,0,0,0,0)=m.getD i pd:=rfl;rw[ai (show(i:Int)<m.length by omega),qG,ai hi,bh,e,yQ7 (by omega) (by omega),qW hi (by omega)];simp only[aY,aG];cases decide (fK m (m.getD i pd).1=(i:Int)) with
  |false=>rfl
  |true=>
   simp only[bX,aU,Bool.true_and];cases i with
   |zero=>rfl
   |succ i=>
    have w:zA (((i+1:Nat):Int)-1)=(i:Int):=by rw[zR (by omega) (by omega)];omega
    rw[ai (show((i+1:Nat):Int)>0 by omega),w,qG,ai (show i<m.length by omega),bh];simp only[aY];refine(congrArg (fun z=>Option.bind z _) (yEb 1000 (m.getD i pd) (m.getD (i+1) pd))).trans ?_;have ea:ix m (i+1)=jW (m.getD i pd) (m.getD (i+1) pd):=by unfold ix;rw[an (by omega)];rfl
    rw[ea];cases jW (m.getD i pd) (m.getD (i+1) pd)<;>rfl) (n:=1000) (by omega)
 unfold xz;rw[l0];unfold mJ;cases zU (fun i=>decide (fK m (m.getD i pd).1=(i:Int))&&ix m i) m.length 0<;>rfl
def mL (ids:AC)(i:Nat):Bool:= !decide (ids.getD i 0<1)&&(decide (i=0)|| !decide (ids.getD i 0≤ids.getD (i-1) 0))
def lf (ids:AC):Bool:=zU (mL ids) ids.length 0&&decide ((ids.length:Int)≤200)
theorem yNf {ids:AC}(hm:ids.length≤900):xA 1000 ids=some (lf ids):=by
 have l0 : oY 1000 1000 ids 0 = _ := wS (L := fun n i => oY 1000 n ids i) (N := ids.length) (mL ids) (.inl ids) (.inr false) (fun n=>by
  show ta 1000 (oY 1000 n) ids (ids.length:Int)=_;unfold ta;rw[an (Int.lt_irrefl _)];rfl) (fun n i hi=>by
  show ta 1000 (oY 1000 n) ids (i:Int)=_;unfold ta mL;rw[ai (show(i:Int)<ids.length by omega),qG,ai hi,bh,qW hi (by omega)];simp only[aY];cases decide (ids.getD i 0<1) with
  |true=>rfl
  |false=>
   simp only[aU,fI,Bool.true_and];cases i with
   |zero=>rfl
   |succ i=>
    have w:zA (((i+1:Nat):Int)-1)=(i:Int):=by rw[zR (by omega) (by omega)];omega
    rw[ai (show((i+1:Nat):Int)>0 by omega),w,qG,ai (show i<ids.length by omega),bh,an (show¬i+1=0 by omega)];simp only[aY,Nat.add_sub_cancel,Bool.false_or];cases decide (ids.getD (i+1) 0≤ids.getD i 0)<;>rfl) (n:=1000) (by omega)
 unfold xA;rw[l0];unfold lf;cases zU (mL ids) ids.length 0<;>rfl
theorem yFq {ids:AC}(h:lf ids=true):oP ids∧(∀x∈ids,1≤x)∧ids.length≤200:=by
 unfold lf at h;rw[cY,wQ] at h;have h1:∀i,i<ids.length→1≤ids.getD i 0∧(i=0∨ids.getD (i-1) 0<ids.getD i 0):=fun i hi=>by
  have:=h.1 i hi;unfold mL at this;simp only[cY,Bool.or_eq_true,Bool.not_eq_true',jm,decide_eq_false_iff_not] at this;omega
 have h2:=yWd h.2;refine⟨?_,fun x hx=>?_,by omega⟩
 ·unfold oP;rw[List.pairwise_iff_getElem];intro i j hi hj fx;have key:∀c,i+c+1<ids.length→ids.getD i 0<ids.getD (i+c+1) 0:=by
   intro c
   induction c with
   |zero=>
    intro hl;have:=(h1 (i+0+1) hl).2;rw[show i+0+1-1=i by omega] at this;omega
   |succ c ih=>
    intro hl;have:=(h1 (i+(c+1)+1) hl).2;rw[show i+(c+1)+1-1=i+c+1 by omega] at this;have:=ih (by omega);omega
  have:=key (j-i-1) (by omega);rw[show i+(j-i-1)+1=j by omega,B5 (d:=0) ids hi,B5 (d:=0) ids hj] at this;exact this
 ·obtain⟨i,hi,rfl⟩:=List.mem_iff_getElem.1 hx;have:=(h1 i hi).1;rw[B5 (d:=0) ids hi] at this;exact this
theorem yH0 {ids:AC}(hl:ids.length≤900)(id:Int):B8 1000 ids id=some (decide (id∈ids)):=by
 have l0 : oZ 1000 1000 ids id 0 = _ := wS (L := fun n i => oZ 1000 n ids id i) (N := ids.length) (fun i => !decide (ids.getD i 0 = id)) (.inl ()) (.inr true) (fun n=>by
  show tc 1000 (oZ 1000 n) ids id (ids.length:Int)=_;unfold tc;rw[an (Int.lt_irrefl _)];rfl) (fun n i hi=>by
  show tc 1000 (oZ 1000 n) ids id (i:Int)=_;unfold tc;rw[ai (show(i:Int)<ids.length by omega),qG,ai hi,bh,qW hi (by omega)];cases decide (ids.getD i 0=id)<;>rfl) (n:=1000) (by omega)
 unfold B8;rw[l0];by_cases h:id∈ids
 ·obtain⟨i,hi,e⟩:=List.mem_iff_getElem.1 h;have:zU (fun i=> !decide (ids.getD i 0=id)) ids.length 0=false:=by
   cases q:zU (fun i=> !decide (ids.getD i 0=id)) ids.length 0 with
   |false=>rfl
   |true=>
    have:=wQ.1 q i hi;rw[B5 (d:=0) ids hi,e] at this;simp at this
  rw[this,ai h];rfl
 ·have:zU (fun i=> !decide (ids.getD i 0=id)) ids.length 0=true:=wQ.2 fun i hi=>by
   rw[an fun e=>h (by rw[←e];exact oL hi)];rfl
  rw[this,an h];rfl
def gu (s:yK)(p:zQ):Bool:=ig s.B.1.length p&&(!decide (p.2.2.2.2.2.1<0)&&(!decide (p.2.2.2.2.2.2<p.2.2.2.2.2.1)&&(!decide (p.2.2.2.2.2.2>1048576)&&decide (p.1∈s.ids))))
def o0 (s:yK):Bool:=mJ s.m&&(lf s.ids&&zU (fun i=>gu s (s.m.getD i pd)) s.m.length 0)
theorem yO0 {s:yK}(hm:s.m.length≤900)(hi:s.ids.length≤900):xB 1000 s.st=some (o0 s):=by
  have em:s.st.2.2.2.2.2.2.2.1=s.m:=rfl;have ei:s.st.2.2.2.2.2.2.2.2.1=s.ids:=rfl;have ea:s.st.2.1=s.B.1:=rfl;have l0 : mM 1000 1000 0 s.st = _ := wS (L := fun n i => mM 1000 n i s.st) (N := s.m.length) (fun i => gu s (s.m.getD i pd)) (.inl ()) (.inr false) (fun n=>by
    show td 1000 (mM 1000 n) (s.m.length:Int) s.st=_;unfold td;rw[em,an (Int.lt_irrefl _)];rfl) (fun n i bU=>by
    show td 1000 (mM 1000 n) (i:Int) s.st=_;unfold td gu;have e:s.m.getD i (0,0,0,0,0,0,0)=s.m.getD i pd:=rfl;rw[em,ei,ea,ai (show(i:Int)<s.m.length by omega),qG,ai bU,bh,e,RM,yH0 hi,qW bU (by omega)];simp only[aY,aG];have e':((s.m.getD i pd).1,(s.m.getD i pd).2.1,(s.m.getD i pd).2.2.1,(s.m.getD i pd).2.2.2.1,(s.m.getD i pd).2.2.2.2.1,(s.m.getD i pd).2.2.2.2.2.1,(s.m.getD i pd).2.2.2.2.2.2)=s.m.getD i pd:=rfl;rw[e'];cases ig s.B.1.length (s.m.getD i pd)<;>cases decide ((s.m.getD i pd).2.2.2.2.2.1<0)<;>cases decide ((s.m.getD i pd).2.2.2.2.2.2<(s.m.getD i pd).2.2.2.2.2.1)<;>cases decide ((s.m.getD i pd).2.2.2.2.2.2>1048576)<;>cases decide ((s.m.getD i pd).1∈s.ids)<;>rfl) (n:=1000) (by omega)
  have e0:xB 1000 s.st=(xz 1000 s.m).bind fun x0=>
     bif !x0 then some false
     else(xA 1000 s.ids).bind fun x1=>
     bif !x1 then some false
     else(mM 1000 1000 0 s.st).bind fun z=>
     match z with
     |.inl z1=>some true
     |.inr z2=>some z2:=rfl
  rw[e0,yOn hm,yNf hi,l0];unfold o0;cases mJ s.m<;>cases lf s.ids<;>cases zU (fun i=>gu s (s.m.getD i pd)) s.m.length 0<;>rfl
def gv (s:yK)(i:Nat):Bool:= !decide (s.pr.getD i 0<0)&& !decide (s.pr.getD i 0>1048576)
def jw (h:AC)(j:Nat):Bool:= !decide (h.getD j 0<0)&& !decide (h.getD j 0>1099511627776)
def o6 (r:vK)(s:yK)(i:Nat):Bool:=decide (((s.ho.getD i []).length:Int)=(r.2.1.length:Int))&&(zU (jw (s.ho.getD i [])) (s.ho.getD i []).length 0&&(!decide (im r.2.1 s.pr (s.ho.getD i [])>1152921504606846976)&&decide ((s.B.1.getD i ad).2.1=im r.2.1 s.pr (s.ho.getD i []))))
def o9 (r:vK)(s:yK):Bool:=decide ((s.pr.length:Int)=(r.2.1.length:Int))&&(decide ((s.ho.length:Int)=r.1)&&(zU (gv s) s.pr.length 0&&zU (o6 r s) s.B.1.length 0))
theorem Su {r:vK}(hr:oV r){s:yK}(hp:(s.pr.length:Int)=(r.2.1.length:Int))(h1:zU (gv s) s.pr.length 0=true){h:AC}(hl:(h.length:Int)=(r.2.1.length:Int))(h2:zU (jw h) h.length 0=true):jq r.2.1 s.pr h:=by
 rw[wQ] at h1 h2;refine⟨hr.n3,by omega,by omega,hr.cut,fun i hi=>?_,fun i hi=>?_⟩
 ·have:=h1 i (by omega);unfold gv at this;simp only[cY,Bool.not_eq_true',decide_eq_false_iff_not] at this;omega
 ·have:=h2 i (by omega);unfold jw at this;simp only[cY,Bool.not_eq_true',decide_eq_false_iff_not] at this;omega
theorem yFo {r:vK}(hr:oV r){s:yK}(hn:(s.B.1.length:Int)=r.1):xC 1000 r s.st=some (o9 r s):=by
  have ep:s.st.2.2.2.2.2.1=s.pr:=rfl;have eh:s.st.2.2.2.2.2.2.1=s.ho:=rfl;have ea:s.st.2.1=s.B.1:=rfl;have h3:=hr.n3;have hpa:=hr.pa;have e0:xC 1000 r s.st=bif !(decide ((s.pr.length:Int)=(r.2.1.length:Int))) then some false
    else bif !(decide ((s.ho.length:Int)=r.1)) then some false
    else(mN 1000 1000 0 r s.st).bind fun z=>
    match z with
    |.inl z1=>(mO 1000 1000 0 z1.1 z1.2).bind fun z5=>
     match z5 with
     |.inl z6=>some true
     |.inr z7=>some z7
    |.inr z8=>some z8:=rfl
  rw[e0];unfold o9;by_cases hp:(s.pr.length:Int)=(r.2.1.length:Int)
  case neg=>rw[an hp];rfl
  by_cases ho:(s.ho.length:Int)=r.1
  case neg=>rw[ai hp,an ho];rfl
  rw[ai hp,ai ho];simp only[bX,aU,Bool.true_and];have l0 : mN 1000 1000 0 r s.st = _ := wS (L := fun n i => mN 1000 n i r s.st) (N := s.pr.length) (gv s) (.inl (r, s.st)) (.inr false) (fun n=>by
    show tf 1000 (mN 1000 n) (s.pr.length:Int) r s.st=_;unfold tf;rw[ep,an (Int.lt_irrefl _)];rfl) (fun n i hi=>by
    show tf 1000 (mN 1000 n) (i:Int) r s.st=_;unfold tf gv;rw[ep,ai (show(i:Int)<s.pr.length by omega),qG,ai hi,bh,qW hi (by omega)];cases decide (s.pr.getD i 0<0)<;>cases decide (s.pr.getD i 0>1048576)<;>rfl) (n:=1000) (by omega)
  rw[l0];cases HZ:zU (gv s) s.pr.length 0 with
  |false=>rfl
  |true=>
  simp only[aY,aG,Bool.true_and];have l2:∀i,i<s.ho.length→(s.ho.getD i []).length=r.2.1.length→pb 1000 1000 (i:Int) 0 r s.st=some (bif zU (jw (s.ho.getD i [])) (s.ho.getD i []).length 0 then .inl ((i:Int),r,s.st) else .inr false):=fun i ez hl=>
    wS (L := fun n j => pb 1000 n (i : Int) j r s.st) (N := (s.ho.getD i []).length) (jw (s.ho.getD i [])) (.inl ((i : Int), r, s.st)) (.inr false) (fun n=>by
      show tg 1000 (pb 1000 n) (i:Int) ((s.ho.getD i []).length:Int) r s.st=_;unfold tg;rw[eh,qG,ai ez,bh,an (Int.lt_irrefl _)];rfl) (fun n j hj=>by
      show tg 1000 (pb 1000 n) (i:Int) (j:Int) r s.st=_;unfold tg jw;rw[eh,qG,ai ez,bh,bh,ai (show(j:Int)<(s.ho.getD i []).length by omega),qG,ai hj,qW hj (by omega)];cases decide ((s.ho.getD i []).getD j 0<0)<;>cases decide ((s.ho.getD i []).getD j 0>1099511627776)<;>rfl) (n:=1000) (by omega)
  have l1 : mO 1000 1000 0 r s.st = _ := wS (L := fun n i => mO 1000 n i r s.st) (N := s.B.1.length) (o6 r s) (.inl ()) (.inr false) (fun n=>by
    show th 1000 (mO 1000 n) (s.B.1.length:Int) r s.st=_;unfold th;rw[an (show¬(s.B.1.length:Int)<r.1 by omega)];rfl) (fun n i hi=>by
    show th 1000 (mO 1000 n) (i:Int) r s.st=_;unfold th o6;have ez:i<s.ho.length:=by omega
    have ed:s.B.1.getD i (0,0,0)=s.B.1.getD i ad:=rfl;rw[eh,ai (show(i:Int)<r.1 by omega),qG,ai ez,bh];by_cases hl:((s.ho.getD i []).length:Int)=(r.2.1.length:Int)
    case neg=>rw[an hl];rfl
    rw[ai hl,l2 i ez (by omega)];simp only[aY,aG,bX,aU,Bool.true_and];cases hh:zU (jw (s.ho.getD i [])) (s.ho.getD i []).length 0 with
    |false=>rfl
    |true=>
      have L:=Su hr hp HZ hl hh;simp only[aY,Bool.true_and];rw[eh,ep,ea,qG,ai ez,bh,yIi L,qG,ai hi,ed,qW hi (by omega)];simp only[aY,aG,bX,aU];cases decide (im r.2.1 s.pr (s.ho.getD i [])>1152921504606846976)<;>cases decide ((s.B.1.getD i ad).2.1=im r.2.1 s.pr (s.ho.getD i []))<;>rfl) (n:=1000) (by omega)
  rw[l1];cases zU (o6 r s) s.B.1.length 0<;>rfl
def yZ (s:yK):Int:=qF (fun i=>(s.B.1.getD i ad).1) s.B.1.length
def H0 (r:vK)(s:yK):Bool:=decide (yZ s=s.to)&&(decide (yZ s≥0)&&(decide (yZ s≤1152921504606846976)&&(jC s.ov (decide (s.t=r.2.2.2.1))&&(!s.ov||decide ((s.m.length:Int)=0)))))
def B9 (r:vK)(s:yK):Bool:= !decide (s.t<0)&&(!decide (s.t>r.2.2.2.1)&&(eL s.B.1 s.B.2.1 s.B.2.2.1 s.B.2.2.2&&(decide ((s.B.1.length:Int)=r.1)&&(o9 r s&&(o0 s&&H0 r s)))))
theorem Sv {r:vK}(hr:oV r){s:yK}(hm:s.m.length≤900)(hi:s.ids.length≤900):xD 1000 r s.st=some (B9 r s):=by
  have ea:s.st.2.1=s.B.1:=rfl;have eU:xD 1000 r s.st=bif decide (s.t<0) then some false
     else bif decide (s.t>r.2.2.2.1) then some false
     else(rZ 1000 s.B.1 s.B.2.1 s.B.2.2.1 s.B.2.2.2).bind fun x0=>
     bif !x0 then some false
     else bif !(decide ((s.B.1.length:Int)=r.1)) then some false
     else(xC 1000 r s.st).bind fun x1=>
     bif !x1 then some false
     else(xB 1000 s.st).bind fun x2=>
     bif !x2 then some false
     else(pc 1000 1000 0 r s.st []).bind fun z=>
     (xx 1000 z.2.2).bind fun x3=>
     bif x3.2 then (bif decide (x3.1 = z.2.1.2.2.2.2.2.2.2.2.2.1) then (bif decide (x3.1 ≥ 0) then (bif decide (x3.1 ≤ 1152921504606846976) then (bif jC z.2.1.2.2.2.2.2.2.2.2.2.2 (decide (z.2.1.1 = z.1.2.2.2.1)) then (bif !z.2.1.2.2.2.2.2.2.2.2.2.2 then some true
          else some (decide ((z.2.1.2.2.2.2.2.2.2.1.length:Int)=0)))
         else some false)
        else some false)
       else some false)
      else some false)
     else some false:=rfl
  rw[eU,RD (by decide)];unfold B9;cases decide (s.t<0) with
  |true=>rfl
  |false=>
  cases decide (s.t>r.2.2.2.1) with
  |true=>rfl
  |false=>
  simp only[aU,fI,Bool.true_and,aG];cases hb:eL s.B.1 s.B.2.1 s.B.2.2.1 s.B.2.2.2 with
  |false=>rfl
  |true=>
  have xE:=Bi.1 hb;have hn6:=xE.n6;by_cases hn:(s.B.1.length:Int)=r.1
  case neg=>rw[an hn];rfl
  rw[ai hn,yFo hr hn];simp only[bX,aU,aG,Bool.true_and];cases o9 r s with
  |false=>rfl
  |true=>
  rw[yO0 hm hi];simp only[bX,aU,aG,Bool.true_and];cases o0 s with
  |false=>rfl
  |true=>
  obtain ⟨x, h1, h2⟩ := hZ (L := fun n j (x : AC) => pc 1000 n j r s.st x) (N := s.B.1.length) (fun x => (r, s.st, x)) (fun j x => x = (List.range j).map fun j => (s.B.1.getD j ad).1) (fun n x _=>by
    show tj 1000 (pc 1000 n) (s.B.1.length:Int) r s.st x=_;unfold tj;rw[an (show¬(s.B.1.length:Int)<r.1 by omega)];rfl) (fun n j x hj hx=>by
    refine⟨x++[(s.B.1.getD j ad).1],?_,?_⟩
    · show tj 1000 (pc 1000 n) (j:Int) r s.st x=_;unfold tj;have hl:x.length=j:=by rw[hx];simp
      rw[ea,ai (show(j:Int)<r.1 by omega),qG,ai hj,gj (by omega) (by omega),bh,qW hj (by omega)];rfl
    · rw[hx,List.range_succ,List.map_append];rfl) (n:=1000) (s:=[]) (by omega) rfl
  have H2:∀j,j<s.B.1.length→-4611686018427387904<(s.B.1.getD j ad).1∧(s.B.1.getD j ad).1<4611686018427387904:=fun j hj=>(Sn.1 (xE.acct j hj)).1
  have H3:∀y∈x,-9223372036854775808≤y∧y<9223372036854775808:=by
    intro y hm;rw[h2] at hm;obtain⟨j,hj,e⟩:=List.mem_map.1 hm;have:=H2 j (List.mem_range.1 hj);rw[←e];omega
  have hlen:x.length=s.B.1.length:=by rw[h2];simp
  have rz:∀(g:Nat→Int) (n:Nat),zP (fun x=>x) ((List.range n).map g)=qF g n:=fun g n=>by
    induction n with
    |zero=>rfl
    |succ n ih=>
      rw[List.range_succ,List.map_append,gk,ih];show qF g n+(g n+0)=qF g n+g n;omega
  have pf:zP (fun x=>x) x=yZ s:=by rw[h2,rz];rfl
  rw[h1];simp only[bX,aU,aG,Bool.true_and];rw[yMe (by omega) (by omega) H3,pf];have eo:s.st.2.2.2.2.2.2.2.2.2.2=s.ov:=rfl;have em:s.st.2.2.2.2.2.2.2.1=s.m:=rfl;have et:s.st.2.2.2.2.2.2.2.2.2.1=s.to:=rfl;have e1:s.st.1=s.t:=rfl;have hsw:(sX (yZ s)).2=true∧(sX (yZ s)).1=yZ s∨(sX (yZ s)).2=false∧(yZ s<0∨yZ s>1152921504606846976):=by
    unfold sX;split
    · exact .inr ⟨rfl,by omega⟩
    · exact .inl ⟨rfl,rfl⟩
  simp only[aG];rw[et,e1,eo,em];unfold H0;rcases hsw with⟨q1,q2⟩|⟨q1,q2⟩
  · rw[q1,q2];cases decide (yZ s=s.to)<;>cases decide (yZ s≥0)<;>cases decide (yZ s≤1152921504606846976)<;>cases jC s.ov (decide (s.t=r.2.2.2.1))<;>cases s.ov<;>rfl
  · rw[q1];have:decide (yZ s≥0)=false∨decide (yZ s≤1152921504606846976)=false:=by
      rcases q2 with q|q
      · exact .inl (an (by omega))
      · exact .inr (an (by omega))
    rcases this with q|q
    · rw[q];cases decide (yZ s=s.to)<;>rfl
    · rw[q];cases decide (yZ s=s.to)<;>cases decide (yZ s≥0)<;>rfl
end Go.Ab.Gi
namespace Go.Ab.Gi
open Go.Ab Go.RowKit
theorem H4 (x:Int):IntKind.wrap .u64 x=x%18446744073709551616:=by
 unfold IntKind.wrap;rfl
theorem Sw {X:Type}{L:Nat→Int→Int→Option X}(P:X→Prop)(aA:∀n q t,(∃z,L (n+1) q t=some z∧P z)∨((t+2621440000)%18446744073709551616<4294967296∧∃q',L (n+1) q t=L n q' ((t+2621440000)%18446744073709551616)))(n:Nat)(q t:Int):
  ∃z,L (n+3) q t=some z∧P z:=by
 rcases aA (n+2) q t with h|⟨h1,q1,e1⟩
 ·exact h
 rw[e1];generalize ht:(t+2621440000)%18446744073709551616=t1 at h1;rcases aA (n+1) q1 t1 with h|⟨h2,q2,e2⟩
 ·exact h
 rw[e2];have e:(t1+2621440000)%18446744073709551616=t1+2621440000:=by omega
 rcases aA n q2 ((t1+2621440000)%18446744073709551616) with h|⟨h3,_⟩
 ·exact h
 ·omega
theorem yI1 (s2 s8 ak bY bj aP az bb:Int):∃z,mP 1000 1000 s2 s8 2621440000 ak bY bj aP az bb=some z∧(z.2.1=s8∧z.2.2.1=2621440000):=by
 refine Sw (L:=fun n q t=>mP 1000 n s2 s8 2621440000 ak bY bj aP q t) (fun z=>z.2.1=s8∧z.2.2.1=2621440000) (fun n q t=>?_) 997 az bb;show(∃z,xF 1000 (mP 1000 n) s2 s8 2621440000 ak bY bj aP q t=some z∧_)∨(_∧∃q',xF 1000 (mP 1000 n) s2 s8 2621440000 ak bY bj aP q t=_);unfold xF;rw[H4 (t+2621440000)];by_cases h:(t+2621440000)%18446744073709551616≥4294967296
 ·left;rw[ai h];cases decide (q≥4294967296) with
  |true=>exact⟨_,rfl,rfl,rfl⟩
  |false=>
   simp only[aU];cases decide (IntKind.wrap .u64 (q*ak)>IntKind.wrap .u64 (IntKind.wrap .u64 (4294967296*t)+bj))<;>exact⟨_,rfl,rfl,rfl⟩
 ·rw[an h];cases decide (q≥4294967296) with
  |true=>exact .inr ⟨by omega,_,rfl⟩
  |false=>
   simp only[aU];cases decide (IntKind.wrap .u64 (q*ak)>IntKind.wrap .u64 (IntKind.wrap .u64 (4294967296*t)+bj)) with
   |true=>exact .inr ⟨by omega,_,rfl⟩
   |false=>exact .inl ⟨_,rfl,rfl,rfl⟩
theorem yHu (s2 s8 ak aP az bb aK dv:Int):∃z,mQ 1000 1000 s2 s8 2621440000 ak aP az bb aK dv=some z∧z.2.1=s8:=by
 refine Sw (L:=fun n q t=>mQ 1000 n s2 s8 2621440000 ak aP az t aK q) (fun z=>z.2.1=s8) (fun n q t=>?_) 997 dv bb;show(∃z,xG 1000 (mQ 1000 n) s2 s8 2621440000 ak aP az t aK q=some z∧_)∨(_∧∃q',xG 1000 (mQ 1000 n) s2 s8 2621440000 ak aP az t aK q=_);unfold xG;rw[H4 (t+2621440000)];by_cases h:(t+2621440000)%18446744073709551616≥4294967296
 ·left;rw[ai h];cases decide (q≥4294967296) with
  |true=>exact⟨_,rfl,rfl⟩
  |false=>
   simp only[aU];cases decide (IntKind.wrap .u64 (q*ak)>IntKind.wrap .u64 (IntKind.wrap .u64 (4294967296*t)+aP))<;>exact⟨_,rfl,rfl⟩
 ·rw[an h];cases decide (q≥4294967296) with
  |true=>exact .inr ⟨by omega,_,rfl⟩
  |false=>
   simp only[aU];cases decide (IntKind.wrap .u64 (q*ak)>IntKind.wrap .u64 (IntKind.wrap .u64 (4294967296*t)+aP)) with
   |true=>exact .inr ⟨by omega,_,rfl⟩
   |false=>exact .inl ⟨_,rfl,rfl⟩
theorem yI2 {Y:Type}{F:yP→Option Y}{s2 s8 ak bY bj aP az bb:Int}(hF:∀z:yP,z.2.1=s8→z.2.2.1=2621440000→∃y,F z=some y):
  ∃y,(mP 1000 1000 s2 s8 2621440000 ak bY bj aP az bb).bind F=some y:=by
 obtain⟨z,h,h1,h2⟩:=yI1 s2 s8 ak bY bj aP az bb;rw[h];exact hF z h1 h2
theorem yAz {Y:Type}{F:xI→Option Y}{s2 s8 ak aP az bb aK dv:Int}(hF:∀z:xI,z.2.1=s8→∃y,F z=some y):
  ∃y,(mQ 1000 1000 s2 s8 2621440000 ak aP az bb aK dv).bind F=some y:=by
 obtain⟨z,h,h1⟩:=yHu s2 s8 ak aP az bb aK dv;rw[h];exact hF z h1
theorem yGt {hi lo:Int}(h:0≤hi∧hi<10000):∃x,sK 1000 hi lo 10000=some x:=by
 unfold sK;rw[an (show¬(10000:Int)=0 by decide),an (show¬(10000:Int)≤hi by omega)];by_cases h0:hi=0
 ·rw[ai h0];exact⟨_,rfl⟩
 ·rw[an h0,show H5 1000 10000=some 50 from by kernel_rfl];simp only[aU,aG];have w1:IntKind.wrap .u64 50=50:=by kernel_rfl
  have w2:IntKind.wrap .u64 (64-50)=14:=by kernel_rfl
  have w3:shr .u64 (shl .u64 10000 50) 32=2621440000:=by kernel_rfl
  rw[w1,w2,w3,an (show¬(50:Int)<0 by omega),an (show¬(14:Int)<0 by omega),an (show¬(2621440000:Int)=0 by omega)];simp only[fI,aY];refine yI2 fun z z1 z2=>?_
  rw[z2,an (show¬(2621440000:Int)=0 by omega)];simp only[fI,aY];refine yAz fun y y1=>?_
  rw[y1,z1,an (show¬(50:Int)<0 by omega)];exact⟨_,rfl⟩
theorem yEi (x:Int):0≤IntKind.wrap .u64 x:=by
 rw[H4];omega
theorem Sx (k:Nat)(x y:Int):∃hi lo,oQ k x y=some (hi,lo)∧0≤hi:=by
 unfold oQ;exact⟨_,_,rfl,yEi _⟩
theorem yP6 (c:Int):∃b,xj 1000 c=some b:=by
 unfold xj;cases decide (c≥0)<;>exact⟨_,rfl⟩
theorem yFx (p m c:Int):∃n ok,sL 1000 p m c=some (n,ok)∧(m<0→ok=false)∧(-9223372036854775808≤n∧n<9223372036854775808):=by
 unfold sL;by_cases h1:p<0
 ·rw[ai h1];exact⟨0,false,rfl,fun _=>rfl,by omega⟩
 rw[an h1];by_cases h2:m<0
 ·rw[ai h2];exact⟨0,false,rfl,fun _=>rfl,by omega⟩
 rw[an h2];rw[aU,aU];obtain⟨b,hb⟩:=yP6 c;rw[hb];cases b with
 |false=>exact⟨0,false,rfl,fun _=>rfl,by omega⟩
 |true=>
 rw[aG,bX,aU];obtain⟨hi,lo,e1,e2⟩:=Sx 1000 (IntKind.wrap .u64 p) (IntKind.wrap .u64 m);rw[e1];rw[aG];obtain ⟨⟨q, t⟩, e3⟩ := yGt (hi := Int.tmod hi 10000) (lo := lo) (by
  rw[Int.tmod_eq_emod_of_nonneg e2];omega)
 rw[e3];rw[aG];obtain⟨a,b,e4,_⟩:=Sx 1000 q (IntKind.wrap .u64 (zA (10000-c)));rw[e4];rw[aG];obtain⟨⟨d,e⟩,e5⟩:∃x,oG 1000 b (IntKind.wrap .u64 (Int.tdiv (IntKind.wrap .u64 (t*IntKind.wrap .u64 (zA (10000-c)))) 10000)) 0=some x:=⟨_,rfl⟩;rw[e5];rw[aG];have hw:-9223372036854775808≤zA d∧zA d<9223372036854775808:=⟨yO1 d,yPv d⟩;have h0:-9223372036854775808≤(0:Int)∧(0:Int)<9223372036854775808:=by omega
 cases decide (IntKind.wrap .u64 (Int.tdiv hi 10000)>0)<;>cases decide (IntKind.wrap .u64 (zA (10000-c))>0)<;>cases decide (IntKind.wrap .u64 (a+e)>0)<;>cases decide (d>9223372036854775807)<;>first|exact⟨_,_,rfl,fun h=>absurd h h2,hw⟩|exact⟨_,_,rfl,fun h=>absurd h h2,h0⟩
theorem yNg {sa:List oS}{pr h:AC}(hn:sa.length≤3)(hp:pr.length=sa.length)(hl:h.length=sa.length):∃n ok,gp 1000 sa pr h=some (n,ok)∧((∃j,j<h.length∧h.getD j 0<0)→ok=false):=by
 have key:∀(c i n:Nat) (r:AC),i+c=sa.length→c<n→r.length=i→(∀j,j<r.length→-9223372036854775808≤r.getD j 0∧r.getD j 0<9223372036854775808)→(∀j,j<i→¬h.getD j 0<0)→
   (∃l,iq 1000 n pr h sa (sa.length:Int) (i:Int) r=some (.inl l)∧l.length=sa.length∧(∀j,j<l.length→-9223372036854775808≤l.getD j 0∧l.getD j 0<9223372036854775808)∧∀j,j<sa.length→¬h.getD j 0<0)∨iq 1000 n pr h sa (sa.length:Int) (i:Int) r=some (.inr (0,false)):=by
  intro c
  induction c with
  |zero=>
   intro i n r h1 h2 h3 h4 h5;obtain⟨n,rfl⟩:∃m,n=m+1:=⟨n-1,by omega⟩;refine .inl ⟨r,?_,by omega,h4,fun j hj=>h5 j (by omega)⟩;show jt 1000 _ pr h sa (sa.length:Int) (i:Int) r=_;unfold jt;rw[an (by omega)];rfl
  |succ c ih=>
   intro i n r h1 h2 h3 h4 h5;obtain⟨n,rfl⟩:∃m,n=m+1:=⟨n-1,by omega⟩;obtain⟨v,ok,w1,w2,w3⟩:=yFx (pr.getD i 0) (h.getD i 0) (sa.getD i (0,0)).2;have st:iq 1000 (n+1) pr h sa (sa.length:Int) (i:Int) r=bif !ok then some (.inr (0,false)) else iq 1000 n pr h sa (sa.length:Int) ((i+1:Nat):Int) (r++[v]):=by
    show jt 1000 (iq 1000 n) pr h sa (sa.length:Int) (i:Int) r=_;unfold jt;rw[ai (by omega),GN (by omega) (by omega),GN (by omega) (by omega),GN (by omega) (by omega),bh,w1,gj (by omega) (by omega),qW (N:=sa.length) (by omega) (by omega)];rfl
   cases ok with
   |false=>exact .inr (by rw[st];rfl)
   |true=>
    rw[st];refine ih (i+1) n (r++[v]) (by omega) (by omega) (by rw[List.length_append,h3];rfl) (fun j hj=>?_) fun j hj=>?_
    ·rw[List.length_append,List.length_singleton] at hj;by_cases q:j<r.length
     ·rw[List.getD_eq_getElem?_getD,List.getElem?_append_left q,←List.getD_eq_getElem?_getD];exact h4 j q
     ·have:j=r.length:=by omega
      subst this;rw[List.getD_eq_getElem?_getD,List.getElem?_append_right (Nat.le_refl _),Nat.sub_self];exact w3
    ·by_cases q:j<i
     ·exact h5 j q
     ·have:j=i:=by omega
      subst this;intro H6;have:=w2 H6;cases this
 unfold gp;rw[ai (show(pr.length:Int)=(sa.length:Int) by omega),ai (show(h.length:Int)=(sa.length:Int) by omega)];simp only[bX,aU];have k0:=key sa.length 0 1000 [] (by omega) (by omega) rfl (fun j hj=>absurd hj (Nat.not_lt_zero j)) (fun j hj=>absurd hj (Nat.not_lt_zero j));rw[show((0:Nat):Int)=0 from rfl] at k0;rcases k0 with⟨l,e,l1,l2,l3⟩|e
 ·rw[e];simp only[aG];rw[Hw (by omega) (by omega) l2];simp only[aG];refine⟨_,_,rfl,fun⟨j,j1,j2⟩=>absurd j2 (l3 j (by omega))⟩
 ·rw[e];exact⟨0,false,rfl,fun _=>rfl⟩
theorem Sy {a b:Bool}(h:a=true↔b=true):a=b:=by
 cases a<;>cases b<;>simp at h<;>rfl
theorem yG2 {m:List zQ}(hm:m.length≤900):xJ 1000 m=some (mJ m):=by
 have l0 : pg 1000 1000 m m (m.length : Int) 0 = _ := wS (L := fun n i => pg 1000 n m m (m.length : Int) i) (N := m.length) (fun i => decide (fK m (m.getD i pd).1 = (i : Int))) (.inl m) (.inr false) (fun n=>by
  show tl 1000 _ m m (m.length:Int) (m.length:Int)=_;unfold tl;rw[an (Int.lt_irrefl _)];rfl) (fun n i hi=>by
  show tl 1000 (pg 1000 n) m m (m.length:Int) (i:Int)=_;unfold tl;have e:m.getD i (0,0,0,0,0,0,0)=m.getD i pd:=rfl;rw[ai (show(i:Int)<m.length by omega),qG,ai hi,bh,e,yA0 (by omega) (by omega),qW hi (by omega)];simp only[aY,aG];cases decide (fK m (m.getD i pd).1=(i:Int))<;>rfl) (n:=1000) (by omega)
 have sorted:∃b,Ca 1000 m=some b∧(b=true↔∀i,i<m.length→ix m i=true):=by
  have Sl:∀a b:zQ,mu b a= !jW a b:=fun a b=>by
   have h1:=yPw (q:=a) (p:=b);have h2:=yFn (q:=b) (p:=a);cases h3:jW a b<;>cases h4:mu b a<;>rw[h3] at h1<;>rw[h4] at h2<;>simp at h1 h2<;>first|rfl|omega
  have down:∀(i n:Nat),i<n→i<m.length∨i=0→∃b:Bool,ph 1000 n m (i:Int)=some (bif b then .inl () else .inr false)∧(b=true↔∀j,j≤i→ix m j=true):=by
   intro i
   induction i with
   |zero=>
    intro n hn _;obtain⟨n,rfl⟩:∃x,n=x+1:=⟨n-1,by omega⟩;refine⟨true,rfl,fun _ j hj=>?_,fun _=>rfl⟩;have:j=0:=by omega
    subst this;unfold ix;rw[ai rfl];rfl
   |succ i ih=>
    intro n hn hi;obtain⟨n,rfl⟩:∃x,n=x+1:=⟨n-1,by omega⟩;have bU:i+1<m.length:=by omega
    obtain⟨b,b1,b2⟩:=ih n (by omega) (.inl (by omega));obtain⟨x,x1,x2,x3⟩:=yQ6 (k:=1000) (by omega) (m.getD (i+1) pd) (m.getD i pd);have ea:ix m (i+1)=jW (m.getD i pd) (m.getD (i+1) pd):=by unfold ix;rw[an (by omega)];rfl
    have st:ph 1000 (n+1) m ((i+1:Nat):Int)=bif decide (x<0) then some (.inr false) else ph 1000 n m (i:Int):=by
     show Cb 1000 (ph 1000 n) m ((i+1:Nat):Int)=_;unfold Cb;have w:zA (((i+1:Nat):Int)-1)=(i:Int):=by rw[zR (by omega) (by omega)];omega
     rw[ai (show((i+1:Nat):Int)>0 by omega),w,qG,qG,ai bU,ai (show i<m.length by omega),bh,bh];simp only[aY];refine(congrArg (fun z=>Option.bind z _) x1).trans ?_;rfl
    rw[st,x3,Sl (m.getD i pd) (m.getD (i+1) pd)];cases hl:jW (m.getD i pd) (m.getD (i+1) pd) with
    |false=>
     refine⟨false,rfl,fun h=>(by cases h),fun h=>?_⟩;have:=h (i+1) (Nat.le_refl _);rw[ea,hl] at this;cases this
    |true=>
     refine⟨b,b1,fun h j hj=>?_,fun h=>b2.2 fun j hj=>h j (by omega)⟩;by_cases q:j=i+1
     ·subst q;rw[ea];exact hl
     ·exact b2.1 h j (by omega)
  unfold Ca;by_cases hz:m.length=0
  ·have:m=[]:=List.eq_nil_of_length_eq_zero hz;subst this;have w:zA (((([]:List zQ).length:Nat):Int)-1)= -1:=by rw[zR (by decide) (by decide)];rfl
   rw[w];exact⟨true,rfl,fun _ i hi=>absurd hi (Nat.not_lt_zero i),fun _=>rfl⟩
  ·have w:zA ((m.length:Int)-1)=((m.length-1:Nat):Int):=by rw[zR (by omega) (by omega)];omega
   obtain⟨b,b1,b2⟩:=down (m.length-1) 1000 (by omega) (.inl (by omega));rw[w,b1];refine⟨b,by cases b<;>rfl,b2.trans ⟨fun h i hi=>h i (by omega),fun h j hj=>h j (by omega)⟩⟩
 obtain⟨b,s1,s2⟩:=sorted;unfold xJ;rw[l0];have pick:mJ m=(zU (fun i=>decide (fK m (m.getD i pd).1=(i:Int))) m.length 0&&(decide ((m.length:Int)≤40)&&b)):=by
  apply Sy;unfold mJ;rw[cY,cY,cY,s2,wQ,wQ];constructor
  ·rintro⟨h1,h2⟩
   have h1:∀j,j<m.length→(decide (fK m (m.getD j pd).1=(j:Int))=true∧ix m j=true):=fun j hj=>by
    have:=h1 j hj;rw[cY] at this;exact this
   exact⟨fun j hj=>(h1 j hj).1,h2,fun j hj=>(h1 j hj).2⟩
  ·rintro⟨h1,h2,h3⟩
   exact⟨fun j hj=>by rw[cY];exact⟨h1 j hj,h3 j hj⟩,h2⟩
 rw[pick];cases zU (fun i=>decide (fK m (m.getD i pd).1=(i:Int))) m.length 0 with
 |false=>rfl
 |true=>
  simp only[aY,aG,Bool.true_and];cases decide ((m.length:Int)≤40) with
  |false=>rfl
  |true=>
   simp only[aY,Bool.true_and];rw[s1];rfl
theorem yDj {ids:AC}(hl:ids.length≤900):xK 1000 ids=some (lf ids):=by
 have l0 := RW (L := fun n i (p : Int) => lg 1000 n ids p ids (ids.length : Int) i) (N := ids.length) (fun i => !decide (ids.getD i 0 ≤ if i = 0 then 0 else ids.getD (i - 1) 0)) (fun _ => (.inl ids : AC ⊕ Bool)) (.inr false) (fun i p => p = if i = 0 then 0 else ids.getD (i - 1) 0) (fun n p _=>by
  show tm 1000 _ ids p ids (ids.length:Int) (ids.length:Int)=_;unfold tm;rw[an (Int.lt_irrefl _)];rfl) (fun n i p hi hp=>by
  subst hp;have st:lg 1000 (n+1) ids (if i=0 then 0 else ids.getD (i-1) 0) ids (ids.length:Int) (i:Int)=bif decide (ids.getD i 0≤if i=0 then 0 else ids.getD (i-1) 0) then some (.inr false) else lg 1000 n ids (ids.getD i 0) ids (ids.length:Int) ((i+1:Nat):Int):=by
   show tm 1000 (lg 1000 n) ids _ ids (ids.length:Int) (i:Int)=_;unfold tm;rw[ai (show(i:Int)<ids.length by omega),qG,ai hi,bh,qW hi (by omega)];rfl
  refine⟨fun h=>⟨ids.getD i 0,?_,by rw[if_neg (by omega)];rfl⟩,fun h=>?_⟩
  ·rw[st];cases hd:decide (ids.getD i 0≤if i=0 then 0 else ids.getD (i-1) 0) with
   |false=>rfl
   |true=>rw[hd] at h;cases h
  ·rw[st];cases hd:decide (ids.getD i 0≤if i=0 then 0 else ids.getD (i-1) 0) with
   |false=>rw[hd] at h;cases h
   |true=>rfl) ids.length 0 1000 0 (by omega) (by omega) rfl
 have same:zU (fun i=> !decide (ids.getD i 0≤if i=0 then 0 else ids.getD (i-1) 0)) ids.length 0=zU (mL ids) ids.length 0:=by
  apply Sy;rw[wQ,wQ];constructor
  ·intro h;have pos:∀i,i<ids.length→1≤ids.getD i 0:=by
    intro i
    induction i with
    |zero=>
     intro hi;have:=h 0 hi;simp only[Bool.not_eq_true',decide_eq_false_iff_not,if_true] at this;omega
    |succ i ih=>
     intro hi;have:=h (i+1) hi;rw[if_neg (by omega),Nat.add_sub_cancel] at this;simp only[Bool.not_eq_true',decide_eq_false_iff_not] at this;have:=ih (by omega);omega
   intro i hi;have h1:=h i hi;have h2:=pos i hi;unfold mL;rw[an (show¬ids.getD i 0<1 by omega)];by_cases z:i=0
   ·rw[ai z];rfl
   ·rw[if_neg z] at h1;rw[an z]
    simpa using h1
  ·intro h i hi;have h1:=h i hi;unfold mL at h1;simp only[cY,Bool.or_eq_true,Bool.not_eq_true',jm,decide_eq_false_iff_not] at h1;simp only[Bool.not_eq_true',decide_eq_false_iff_not];by_cases z:i=0
   ·rw[if_pos z];omega
   ·rw[if_neg z];rcases h1.2 with q|q
    ·exact absurd q z
    ·exact q
 unfold xK lf;rw[←same];have l0:(zU (fun i=> !decide (ids.getD i 0≤if i=0 then 0 else ids.getD (i-1) 0)) ids.length 0=true∧∃s':Int,lg 1000 1000 ids 0 ids (ids.length:Int) 0=some (.inl ids)∧_)∨(zU (fun i=> !decide (ids.getD i 0≤if i=0 then 0 else ids.getD (i-1) 0)) ids.length 0=false∧lg 1000 1000 ids 0 ids (ids.length:Int) 0=some (.inr false)):=l0;rcases l0 with⟨h1,s',h2,_⟩|⟨h1,h2⟩
 ·rw[h1,h2];rfl
 ·rw[h1,h2];rfl
theorem yD9 {s:yK}(hm:s.m.length≤900)(hi:s.ids.length≤900):xL 1000 s.st=some (o0 s):=by
 have e1:xL 1000 s.st=(xJ 1000 s.m).bind fun x0=>bif x0 then((xK 1000 s.ids).bind fun x1=>bif x1 then((xM 1000 s.m s.t s.B.1 s.B.2.1 s.B.2.2.1 s.B.2.2.2 s.pr s.ho s.m s.ids s.to s.ov).bind fun x2=>some (!x2)) else some false) else some false:=rfl
 rw[e1,yG2 hm,yDj hi];unfold o0;cases mJ s.m with
 |false=>rfl
 |true=>
 simp only[aG,aY,Bool.true_and];cases G4:lf s.ids with
 |false=>rfl
 |true=>
 simp only[aG,aY,Bool.true_and];have H7:=(yFq G4).1;obtain ⟨x, x1, x2⟩ := oK (L := fun n i => pj 1000 n s.m (s.m.length : Int) i s.t s.B.1 s.B.2.1 s.B.2.2.1 s.B.2.2.2 s.pr s.ho s.m s.ids s.to s.ov) (N := s.m.length) (fun i => !gu s (s.m.getD i pd)) (fun n=>by
  show tn 1000 _ s.m (s.m.length:Int) (s.m.length:Int) s.t s.B.1 s.B.2.1 s.B.2.2.1 s.B.2.2.2 s.pr s.ho s.m s.ids s.to s.ov=_;unfold tn;rw[an (Int.lt_irrefl _)];rfl) (fun n i bU=>by
  show tn 1000 (pj 1000 n) s.m (s.m.length:Int) (i:Int) s.t s.B.1 s.B.2.1 s.B.2.2.1 s.B.2.2.2 s.pr s.ho s.m s.ids s.to s.ov=_;unfold tn;have f1:Cc 1000 (s.m.getD i pd) (s.t,s.B.1,s.B.2.1,s.B.2.2.1,s.B.2.2.2,s.pr,s.ho,s.m,s.ids,s.to,s.ov)=some (!gu s (s.m.getD i pd)):=by
   unfold Cc gu;rw[G7,BM,ySl (by omega) (by omega) H7];have e':((s.m.getD i pd).1,(s.m.getD i pd).2.1,(s.m.getD i pd).2.2.1,(s.m.getD i pd).2.2.2.1,(s.m.getD i pd).2.2.2.2.1,(s.m.getD i pd).2.2.2.2.2.1,(s.m.getD i pd).2.2.2.2.2.2)=s.m.getD i pd:=rfl;rw[e'];have d1:decide ((s.m.getD i pd).2.2.2.2.2.2≥(s.m.getD i pd).2.2.2.2.2.1)= !decide ((s.m.getD i pd).2.2.2.2.2.2<(s.m.getD i pd).2.2.2.2.2.1):=by
    by_cases q:(s.m.getD i pd).2.2.2.2.2.2<(s.m.getD i pd).2.2.2.2.2.1
    ·rw[ai q,an (by omega)];rfl
    ·rw[an q,ai (by omega)];rfl
   have d2:decide ((s.m.getD i pd).2.2.2.2.2.2≤1048576)= !decide ((s.m.getD i pd).2.2.2.2.2.2>1048576):=by
    by_cases q:(s.m.getD i pd).2.2.2.2.2.2>1048576
    ·rw[ai q,an (by omega)];rfl
    ·rw[an q,ai (by omega)];rfl
   rw[d1,d2];cases ig s.B.1.length (s.m.getD i pd)<;>cases decide ((s.m.getD i pd).2.2.2.2.2.1<0)<;>cases decide ((s.m.getD i pd).2.2.2.2.2.2<(s.m.getD i pd).2.2.2.2.2.1)<;>cases decide ((s.m.getD i pd).2.2.2.2.2.2>1048576)<;>cases decide ((s.m.getD i pd).1∈s.ids)<;>rfl
  have e:s.m.getD i (0,0,0,0,0,0,0)=s.m.getD i pd:=rfl;rw[ai (show(i:Int)<s.m.length by omega),qG,ai bU,bh,e,f1,qW bU (by omega)];cases gu s (s.m.getD i pd)<;>rfl) (n:=1000) (by omega)
 have nn:(fun j=> !!gu s (s.m.getD j pd))=fun i=>gu s (s.m.getD i pd):=by funext j;rw[Bool.not_not]
 rw[nn] at x2;have eC:xM 1000 s.m s.t s.B.1 s.B.2.1 s.B.2.2.1 s.B.2.2.2 s.pr s.ho s.m s.ids s.to s.ov=some (!zU (fun i=>gu s (s.m.getD i pd)) s.m.length 0):=by
  unfold xM H8;have x1:pj 1000 1000 s.m (s.m.length:Int) 0 s.t s.B.1 s.B.2.1 s.B.2.2.1 s.B.2.2.2 s.pr s.ho s.m s.ids s.to s.ov=some x:=x1;rw[x1,←x2];cases x<;>rfl
 rw[eC];cases zU (fun i=>gu s (s.m.getD i pd)) s.m.length 0<;>rfl
theorem yK9 {s:yK}(hp:s.pr.length≤900):xN 1000 s.pr=some (!zU (gv s) s.pr.length 0):=by
 obtain ⟨x, x1, x2⟩ := oK (L := fun n i => pn 1000 n s.pr (s.pr.length : Int) i) (N := s.pr.length) (fun i => !gv s i) (fun n=>by
  show tp 1000 _ s.pr (s.pr.length:Int) (s.pr.length:Int)=_;unfold tp;rw[an (Int.lt_irrefl _)];rfl) (fun n i hi=>by
  show tp 1000 (pn 1000 n) s.pr (s.pr.length:Int) (i:Int)=_;unfold tp H9 gv;rw[ai (show(i:Int)<s.pr.length by omega),qG,ai hi,bh,BM,qW hi (by omega)];have d1:decide (s.pr.getD i 0≥0)= !decide (s.pr.getD i 0<0):=by
   by_cases q:s.pr.getD i 0<0
   ·rw[ai q,an (by omega)];rfl
   ·rw[an q,ai (by omega)];rfl
  have d2:decide (s.pr.getD i 0≤1048576)= !decide (s.pr.getD i 0>1048576):=by
   by_cases q:s.pr.getD i 0>1048576
   ·rw[ai q,an (by omega)];rfl
   ·rw[an q,ai (by omega)];rfl
  rw[d1,d2];cases decide (s.pr.getD i 0<0)<;>cases decide (s.pr.getD i 0>1048576)<;>rfl) (n:=1000) (by omega)
 unfold xN Ia;have x1:pn 1000 1000 s.pr (s.pr.length:Int) 0=some x:=x1;rw[x1];have nn:(fun j=> !!gv s j)=gv s:=by funext j;rw[Bool.not_not]
 rw[nn] at x2;rw[←x2];cases x<;>rfl
theorem yPn {h:AC}(hp:h.length≤900):Cd 1000 h=some (!zU (fun j=> !decide (h.getD j 0>1099511627776)) h.length 0):=by
 obtain ⟨x, x1, x2⟩ := oK (L := fun n i => po 1000 n h (h.length : Int) i) (N := h.length) (fun i => decide (h.getD i 0 > 1099511627776)) (fun n=>by
  show tq 1000 _ h (h.length:Int) (h.length:Int)=_;unfold tq;rw[an (Int.lt_irrefl _)];rfl) (fun n i hi=>by
  show tq 1000 (po 1000 n) h (h.length:Int) (i:Int)=_;unfold tq Ib;rw[ai (show(i:Int)<h.length by omega),qG,ai hi,bh,qW hi (by omega)];rfl) (n:=1000) (by omega)
 unfold Cd Ic;have x1:po 1000 1000 h (h.length:Int) 0=some x:=x1;rw[x1,←x2];cases x<;>rfl
theorem yOx {r:vK}(hr:oV r){s:yK}(hn:(s.B.1.length:Int)=r.1):xO 1000 r s.st=some (o9 r s):=by
 have h3:=hr.n3;have hpa:=hr.pa;have e0:xO 1000 r s.st=bif !(decide ((s.pr.length:Int)=(r.2.1.length:Int))) then some false
  else bif !(decide ((s.ho.length:Int)=r.1)) then some false
  else(xN 1000 s.pr).bind fun x0=>
  bif x0 then some false
  else(mR 1000 1000 s.ho (s.ho.length:Int) 0 r s.st).bind fun z=>
  match z with
  |.inl z1=>some true
  |.inr z2=>some z2:=rfl
 rw[e0];unfold o9;by_cases hp:(s.pr.length:Int)=(r.2.1.length:Int)
 case neg=>rw[an hp];rfl
 by_cases ho:(s.ho.length:Int)=r.1
 case neg=>rw[ai hp,an ho];rfl
 rw[ai hp,ai ho,yK9 (by omega)];simp only[bX,aU,Bool.true_and,aG];cases HZ:zU (gv s) s.pr.length 0 with
 |false=>rfl
 |true=>
 simp only[bX,aU,Bool.true_and];have l0 : mR 1000 1000 s.ho (s.ho.length : Int) 0 r s.st = _ := wS (L := fun n i => mR 1000 n s.ho (s.ho.length : Int) i r s.st) (N := s.ho.length) (o6 r s) (.inl ()) (.inr false) (fun n=>by
  show tt 1000 (mR 1000 n) s.ho (s.ho.length:Int) (s.ho.length:Int) r s.st=_;unfold tt;rw[an (Int.lt_irrefl _)];rfl) (fun n i hi=>by
  show tt 1000 (mR 1000 n) s.ho (s.ho.length:Int) (i:Int) r s.st=_;unfold tt o6;have bU:i<s.B.1.length:=by omega
  have ep:s.st.2.2.2.2.2.1=s.pr:=rfl;have ea:s.st.2.1=s.B.1:=rfl;have ed:s.B.1.getD i (0,0,0)=s.B.1.getD i ad:=rfl;rw[ai (show(i:Int)<s.ho.length by omega),qG,ai hi,bh,ep,ea,qG,ai bU,ed,qW hi (by omega)];simp only[aY];by_cases hl:((s.ho.getD i []).length:Int)=(r.2.1.length:Int)
  case neg=>
   have:gp 1000 r.2.1 s.pr (s.ho.getD i [])=some (0,false):=by
    unfold gp;rw[ai hp,an hl];rfl
   rw[this,an hl];rfl
  rw[ai hl,yPn (by omega)];simp only[Bool.true_and];cases hh:zU (jw (s.ho.getD i [])) (s.ho.getD i []).length 0 with
  |true=>
   have L:=Su hr hp HZ hl hh;have hm:zU (fun j=> !decide ((s.ho.getD i []).getD j 0>1099511627776)) (s.ho.getD i []).length 0=true:=wQ.2 fun j hj=>by
    have:=L.hold j (by omega);rw[an (by omega)];rfl
   rw[yOc L (by omega),hm];simp only[aG,bX,aU,Bool.true_and];by_cases hc:(s.B.1.getD i ad).2.1=im r.2.1 s.pr (s.ho.getD i [])
   ·rw[ai hc,ai hc.symm];cases decide (im r.2.1 s.pr (s.ho.getD i [])>1152921504606846976)<;>rfl
   ·rw[an hc,an (show¬im r.2.1 s.pr (s.ho.getD i [])=(s.B.1.getD i ad).2.1 from fun e=>hc e.symm)];cases decide (im r.2.1 s.pr (s.ho.getD i [])>1152921504606846976)<;>rfl
  |false=>
   obtain⟨v,ok,v1,v2⟩:=yNg (sa:=r.2.1) (pr:=s.pr) (h:=s.ho.getD i []) (by omega) (by omega) (by omega);rw[v1];simp only[aG,Bool.false_and,aU];cases ok with
   |false=>rfl
   |true=>
    have hm:zU (fun j=> !decide ((s.ho.getD i []).getD j 0>1099511627776)) (s.ho.getD i []).length 0=false:=by
     cases q:zU (fun j=> !decide ((s.ho.getD i []).getD j 0>1099511627776)) (s.ho.getD i []).length 0 with
     |false=>rfl
     |true=>
      have:zU (jw (s.ho.getD i [])) (s.ho.getD i []).length 0=true:=wQ.2 fun j hj=>by
       have h1:=wQ.1 q j hj;unfold jw;rw[an (fun e=>by have:=v2 ⟨j,hj,e⟩;cases this)];exact h1
      rw[hh] at this;cases this
    rw[hm];simp only[bX,aU,fI,aY];cases decide (v>1152921504606846976)<;>cases decide (v=(s.B.1.getD i ad).2.1)<;>rfl) (n:=1000) (by omega)
 have el:s.ho.length=s.B.1.length:=by omega
 rw[l0,el];cases zU (o6 r s) s.B.1.length 0<;>rfl
theorem Sz {r:vK}(hr:oV r){s:yK}(hm:s.m.length≤900)(hi:s.ids.length≤900):xP 1000 r s.st=some (B9 r s):=by
  have eU:xP 1000 r s.st=(yU 1000 s.t 0 r.2.2.2.1).bind fun x0=>
     bif !x0 then some false
     else(sm 1000 s.B.1 s.B.2.1 s.B.2.2.1 s.B.2.2.2).bind fun x1=>
     bif !x1 then some false
     else bif !(decide ((s.B.1.length:Int)=r.1)) then some false
     else(xO 1000 r s.st).bind fun x2=>
     bif !x2 then some false
     else(xL 1000 s.st).bind fun x3=>
     bif !x3 then some false
     else(tu 1000 1000 s.B.1 (s.B.1.length:Int) 0 r s.st []).bind fun z=>
     (sF 1000 z.2.2).bind fun x4=>
     bif !x4.2 then some false
     else bif !(decide (x4.1=z.2.1.2.2.2.2.2.2.2.2.2.1)) then some false
     else(yU 1000 x4.1 0 1152921504606846976).bind fun x5=>
     bif !x5 then some false
     else(xQ 1000 z.1.1 z.1.2.1 z.1.2.2.1 z.1.2.2.2.1 z.1.2.2.2.2 z.2.1.1).bind fun x6=>
     bif jC z.2.1.2.2.2.2.2.2.2.2.2.2 x6 then (bif !z.2.1.2.2.2.2.2.2.2.2.2.2 then some true
      else some (decide ((z.2.1.2.2.2.2.2.2.2.1.length:Int)=0)))
     else some false:=rfl
  have d1:decide (s.t≥0)= !decide (s.t<0):=by
    by_cases q:s.t<0
    · rw[ai q,an (by omega)];rfl
    · rw[an q,ai (by omega)];rfl
  have d2:decide (s.t≤r.2.2.2.1)= !decide (s.t>r.2.2.2.1):=by
    by_cases q:s.t>r.2.2.2.1
    · rw[ai q,an (by omega)];rfl
    · rw[an q,ai (by omega)];rfl
  rw[eU,BM,d1,d2,RF (by omega)];unfold B9;cases decide (s.t<0) with
  |true=>rfl
  |false=>
  cases decide (s.t>r.2.2.2.1) with
  |true=>rfl
  |false=>
  simp only[fI,Bool.true_and,aG,bX,aU];cases hb:eL s.B.1 s.B.2.1 s.B.2.2.1 s.B.2.2.2 with
  |false=>rfl
  |true=>
  have xE:=Bi.1 hb;have hn6:=xE.n6;by_cases hn:(s.B.1.length:Int)=r.1
  case neg=>rw[an hn];rfl
  rw[ai hn,yOx hr hn];simp only[bX,aU,aG,Bool.true_and];cases o9 r s with
  |false=>rfl
  |true=>
  rw[yD9 hm hi];simp only[bX,aU,aG,Bool.true_and];cases o0 s with
  |false=>rfl
  |true=>
  obtain ⟨x, h1, h2⟩ := hZ (L := fun n j (x : AC) => tu 1000 n s.B.1 (s.B.1.length : Int) j r s.st x) (N := s.B.1.length) (fun x => (r, s.st, x)) (fun j x => x = (List.range j).map fun j => (s.B.1.getD j ad).1) (fun n x _=>by
    show tv 1000 _ s.B.1 (s.B.1.length:Int) (s.B.1.length:Int) r s.st x=_;unfold tv;rw[an (Int.lt_irrefl _)];rfl) (fun n j x hj hx=>by
    refine⟨x++[(s.B.1.getD j ad).1],?_,?_⟩
    · show tv 1000 (tu 1000 n) s.B.1 (s.B.1.length:Int) (j:Int) r s.st x=_;unfold tv;have hl:x.length=j:=by rw[hx];simp
      rw[ai (show(j:Int)<s.B.1.length by omega),qG,ai hj,gj (by omega) (by omega),bh,qW hj (by omega)];rfl
    · rw[hx,List.range_succ,List.map_append];rfl) (n:=1000) (s:=[]) (by omega) rfl
  have H3:∀i,i<x.length→-9223372036854775808≤x.getD i 0∧x.getD i 0<9223372036854775808:=by
    intro i hi;have hm:x.getD i 0∈x:=oL hi;rw[h2] at hm;obtain⟨j,hj,e⟩:=List.mem_map.1 hm;have:=Sn.1 (xE.acct j (List.mem_range.1 hj));have this:-4611686018427387904<(s.B.1.getD j ad).1∧(s.B.1.getD j ad).1<4611686018427387904:=this.1;rw[h2,←e];omega
  have hlen:x.length=s.B.1.length:=by rw[h2];simp
  have pf:jN x=yZ s:=by rw[h2,Hz];rfl
  rw[h1];simp only[bX,aU,aG,Bool.true_and];rw[Hw (by omega) (by omega) H3,pf];have eo:s.st.2.2.2.2.2.2.2.2.2.2=s.ov:=rfl;have em:s.st.2.2.2.2.2.2.2.1=s.m:=rfl;have et:s.st.2.2.2.2.2.2.2.2.2.1=s.to:=rfl;have e1:s.st.1=s.t:=rfl;have ecl:xQ 1000 r.1 r.2.1 r.2.2.1 r.2.2.2.1 r.2.2.2.2 s.t=some (decide (s.t=r.2.2.2.1)):=rfl;unfold H0;cases ik:mv (yZ s) with
  |true=>
    simp only[aY,aG,bX,aU];rw[et,BM,eo,em,e1,ecl];simp only[aG];cases decide (yZ s=s.to)<;>cases decide (yZ s≥0)<;>cases decide (yZ s≤1152921504606846976)<;>cases jC s.ov (decide (s.t=r.2.2.2.1))<;>cases s.ov<;>rfl
  |false=>
    simp only[aU,aG,fI,aY];have:decide (yZ s≥0)=false∨decide (yZ s≤1152921504606846976)=false:=by
      by_cases q:yZ s≥0
      · right;refine an fun q2=>?_
        unfold mv at ik;simp at ik;omega
      · exact .inl (an q)
    rcases this with q|q
    · rw[q];cases decide (yZ s=s.to)<;>rfl
    · rw[q];cases decide (yZ s=s.to)<;>cases decide (yZ s≥0)<;>rfl
end Go.Ab.Gi
namespace Go.Ab.Gi
open Go.Ab Go.RowKit
theorem xR (k:Nat)(a b c:Int):mS k a b c=some (decide (a≥b)&&decide (a≤c)):=by
 unfold mS;cases decide (a≥b)<;>rfl
def Ce (a:Int×Int):Bool:=(decide (a.1≥0)&&decide (a.1≤1048576))&&(decide (a.2≥0)&&decide (a.2≤10000))
theorem yKr (r:vK):∃b,Cf 1000 r=some b∧(b=true→oV r):=by
 unfold Cf;by_cases h1:r.1<1
 ·rw[ai h1];exact⟨false,rfl,fun e=>by cases e⟩
 rw[an h1];by_cases h2:r.1>6
 ·rw[ai h2];exact⟨false,rfl,fun e=>by cases e⟩
 rw[an h2];by_cases h3:(r.2.1.length:Int)>3
 ·rw[ai h3];exact⟨false,rfl,fun e=>by cases e⟩
 rw[an h3];have l0 : pq 1000 1000 0 r = _ := wS (L := fun n i => pq 1000 n i r) (N := r.2.1.length) (fun i => Ce (r.2.1.getD i wJ)) (.inl r) (.inr false) (fun n=>by
  show tw 1000 (pq 1000 n) (r.2.1.length:Int) r=_;unfold tw;rw[an (Int.lt_irrefl _)];rfl) (fun n i hi=>by
  show tw 1000 (pq 1000 n) (i:Int) r=_;unfold tw Ce;have e:r.2.1.getD i (0,0)=r.2.1.getD i wJ:=rfl;rw[ai (show(i:Int)<r.2.1.length by omega),qG,ai hi,bh,e,xR,xR,qW hi (by omega)];simp only[aY,aG];generalize (decide ((r.2.1.getD i wJ).1≥0)&&decide ((r.2.1.getD i wJ).1≤1048576))=A;generalize (decide ((r.2.1.getD i wJ).2≥0)&&decide ((r.2.1.getD i wJ).2≤10000))=B;cases A<;>cases B<;>rfl) (n:=1000) (by omega)
 simp only[aU];rw[l0];cases ha:zU (fun i=>Ce (r.2.1.getD i wJ)) r.2.1.length 0 with
 |false=>exact⟨false,rfl,fun e=>by cases e⟩
 |true=>
  simp only[aY,aG];rw[xR];simp only[aG];have aL:∀i,i<r.2.1.length→(0≤(r.2.1.getD i wJ).1∧(r.2.1.getD i wJ).1≤1048576)∧(0≤(r.2.1.getD i wJ).2∧(r.2.1.getD i wJ).2≤10000):=fun i hi=>by
   have:=wQ.1 ha i hi;unfold Ce at this;simp only[cY,jm] at this;omega
  cases hc:(decide (r.2.2.2.1≥1)&&decide (r.2.2.2.1≤1048576)) with
  |false=>exact⟨false,rfl,fun e=>by cases e⟩
  |true=>
   simp only[aY];rw[xR];simp only[aG];cases hd:(decide (r.2.2.1≥0)&&decide (r.2.2.1≤r.2.2.2.1)) with
   |false=>exact⟨false,rfl,fun e=>by cases e⟩
   |true=>
    simp only[aY];rw[xR];refine⟨_,rfl,fun e=>?_⟩;simp only[cY,jm] at hc hd e;exact⟨by omega,by omega,fun i hi=>(aL i hi).1,fun i hi=>(aL i hi).2,by omega,by omega,by omega⟩
theorem ySv (r:vK)(s:yK)(h1:r.2.1.length≤140737488355328)(h2:s.m.length≤140737488355328)(h3:s.ids.length≤140737488355328)(h4:s.pr.length≤140737488355328)(h5:s.B.1.length≤140737488355328)(h6:s.B.2.2.1.length≤140737488355328):
    ∃b,Cg 1000 r s.st=some b∧(b=false→s.m.length≤300∧s.ids.length≤300∧s.pr.length≤300∧s.B.1.length≤300∧s.ho.length≤20∧s.B.2.1.length≤20∧s.B.2.2.2.length≤20∧s.B.2.2.1.length≤300):=by
  have eU:Cg 1000 r s.st=bif decide ((zA ((zA ((zA ((zA ((zA ((r.2.1.length:Int)+(s.m.length:Int)))+(s.ids.length:Int)))+(s.pr.length:Int)))+(s.B.1.length:Int)))+(s.B.2.2.1.length:Int)))>300) then some true
   else bif decide ((s.ho.length:Int)>20) then some true
   else bif decide ((s.B.2.1.length:Int)>20) then some true
   else bif decide ((s.B.2.2.2.length:Int)>20) then some true
   else bif decide (r.1>20) then some true
   else some (decide (r.1<0)):=rfl
  rw[eU,zR (x:=(r.2.1.length:Int)+(s.m.length:Int)) (by omega) (by omega),zR (x:=(r.2.1.length:Int)+(s.m.length:Int)+(s.ids.length:Int)) (by omega) (by omega),
    zR (x:=(r.2.1.length:Int)+(s.m.length:Int)+(s.ids.length:Int)+(s.pr.length:Int)) (by omega) (by omega),zR (x:=(r.2.1.length:Int)+(s.m.length:Int)+(s.ids.length:Int)+(s.pr.length:Int)+(s.B.1.length:Int)) (by omega) (by omega),zR (by omega) (by omega)]
  by_cases q1:(r.2.1.length:Int)+(s.m.length:Int)+(s.ids.length:Int)+(s.pr.length:Int)+(s.B.1.length:Int)+(s.B.2.2.1.length:Int)>300
  · rw[ai q1];exact⟨true,rfl,fun e=>by cases e⟩
  rw[an q1];by_cases q2:(s.ho.length:Int)>20
  · rw[ai q2];exact⟨true,rfl,fun e=>by cases e⟩
  rw[an q2];by_cases q3:(s.B.2.1.length:Int)>20
  · rw[ai q3];exact⟨true,rfl,fun e=>by cases e⟩
  rw[an q3];by_cases q4:(s.B.2.2.2.length:Int)>20
  · rw[ai q4];exact⟨true,rfl,fun e=>by cases e⟩
  rw[an q4];by_cases q5:r.1>20
  · rw[ai q5];exact⟨true,rfl,fun e=>by cases e⟩
  rw[an q5];exact⟨_,rfl,fun _=>by omega⟩
end Go.Ab.Gi
namespace Go.Ab.Gi
open Go.Ab Go.RowKit
theorem yHf (r:vK)(s:yK)(h1:r.2.1.length≤140737488355328)(h2:s.m.length≤140737488355328)(h3:s.ids.length≤140737488355328)(h4:s.pr.length≤140737488355328)(h5:s.B.1.length≤140737488355328)(h6:s.B.2.2.1.length≤140737488355328):Ch 1000 r s.st=some true:=by
 unfold Ch;obtain⟨b,hb,hl⟩:=ySv r s h1 h2 h3 h4 h5 h6;rw[hb];cases b with
 |true=>rfl
 |false=>
 obtain⟨l1,l2,_⟩:=hl rfl;obtain⟨b7,hb7,hr⟩:=yKr r;simp only[aG,aU];rw[hb7];cases b7 with
 |false=>rfl
 |true=>
 have hr:=hr rfl;have ee:∀b:Bool,jC b b=true:=fun b=>by cases b<;>rfl
 simp only[aG,bX,aU];rw[Sz hr (by omega) (by omega),Sv hr (by omega) (by omega)];simp only[aG];rw[ee,show xS 1000 0=some r0 from by kernel_rfl];simp only[aG,aY];rw[Sz Sr.ok (by omega) (by omega)];simp only[aG];rw[Sv Sr.ok (by omega) (by omega)];have hk:Ie 1000=some true:=by kernel_rfl
 simp only[aG];rw[ee,hk];rfl
end Go.Ab.Gi
