/- Plain proofs, part 2. -/
import Derived.Test.YthpehdcmpldloaaGreatGiQB
import Derived.Test.YthpehdcmpldloaaGreatGiQA
set_option linter.unusedVariables false
set_option linter.unusedSimpArgs false
set_option maxRecDepth 100000
namespace Go.Ab.Gi
open Go.Ab
theorem vPj {k}(hk:1000≤k){r}(hr:vM r){s}(h:qW r s):L4 k s.pr=some false:=by
 have me:=h.bk.n1;have L:=h.laid 0 (by omega);have h3:=L.n3;have hp:=L.pl;have e2 : Cu k k s.pr (s.pr.length : Int) 0 = some (.inl ()) := Ls (L := fun n i => Cu k n s.pr (s.pr.length : Int) i) (fun n=>by
  show HB k _ s.pr (s.pr.length:Int) (s.pr.length:Int)=_;unfold HB;simp) (fun n i hi=>by
  show HB k (Cu k n) s.pr (s.pr.length:Int) (i:Int)=_;unfold HB Zz;have hv:=L.price i (by omega);rw[aa (by grind),qC,aa hi,ao,nB,aa (by grind),aa (by grind),qD hi (by omega)];rfl) (by omega)
 unfold L4 ZA;simp_all
theorem ZB {k}(hk:1000≤k){sa pr h}(L:kV sa pr h):QS k h=some false:=by
 have h3:=L.n3;have hp:=L.hl;have e2 : Cv k k h (h.length : Int) 0 = some (.inl ()) := Ls (L := fun n i => Cv k n h (h.length : Int) i) (fun n=>by
  show HC k _ h (h.length:Int) (h.length:Int)=_;unfold HC;simp) (fun n i hi=>by
  show HC k (Cv k n) h (h.length:Int) (i:Int)=_;unfold HC ZC;have hv:=L.hold i (by omega);rw[aa (by grind),qC,aa hi,ao,ab (by grind),qD hi (by omega)];rfl) (by omega)
 unfold QS ZD;simp_all
theorem vZc {k}(hk:1000≤k){r}(hr:vM r){s}(h:qW r s):L5 k r s.st=some true:=by
 have me:=h.bk.n1;have gJ:=h.bk.n6;have hn:=h.n;have hol:=h.hol;have L:=h.laid 0 (by omega);have e0:L5 k r s.st=bif !(decide ((s.pr.length:Int)=(r.2.1.length:Int))) then some false
  else bif !(decide ((s.ho.length:Int)=r.1)) then some false
  else(L4 k s.pr).bind fun x0=>
  bif x0 then some false
  else(ym k k s.ho (s.ho.length:Int) 0 r s.st).bind fun z=>
  match z with
  |.inl z1=>some true
  |.inr z2=>some z2:=rfl
 have e2 : ym k k s.ho (s.ho.length : Int) 0 r s.st = some (.inl ()) := Ls (L := fun n i => ym k n s.ho (s.ho.length : Int) i r s.st) (fun n=>by
  show HD k (ym k n) s.ho (s.ho.length:Int) (s.ho.length:Int) r s.st=_;unfold HD;simp) (fun n i hi=>by
  show HD k (ym k n) s.ho (s.ho.length:Int) (i:Int) r s.st=_;unfold HD;have bK:i<s.B.1.length:=by omega
  have Li:=h.laid i bK;have hc:(s.B.1.getD i ad).2.1=_:=h.cred i bK;have hm:(s.B.1.getD i ad).2.1≤_:=h.most i bK;have ep:s.st.2.2.2.2.2.1=s.pr:=rfl;have ea:s.st.2.1=s.B.1:=rfl;have ed:s.B.1.getD i (0,0,0)=s.B.1.getD i ad:=rfl;rw[aa (by grind),qC,aa hi,ao,ep,XX Li (by omega),ea,qC,aa bK,ed,ZB hk Li,qD hi (by omega)];grind) (by omega)
 rw[e0,aa (show(s.pr.length:Int)=(r.2.1.length:Int) by rw[L.pl]),aa (by grind),vPj hk hr h,e2];rfl
theorem ZE (s:zU):iV ((List.range s.B.1.length).map fun j=>(s.B.1.getD j ad).1)=qJ (fun j=>(s.B.1.getD j ad).1) s.B.1.length:=XV _ _
theorem vG0 {k}(hk:1000≤k){r}(hr:vM r){s}(h:qW r s):L6 k r s.st=some true:=by
  have gJ:=h.bk.n6;have ht:=h.tk;have LD:=h.tot;have ZF:Bz k s.B.1 s.B.2.1 s.B.2.2.1 s.B.2.2.2=some true:=by rw[yYp (by omega),OZ.2 h.bk]
  obtain ⟨x, h1, h2⟩ := yX (L := fun n j (x : AC) => HE k n s.B.1 (s.B.1.length : Int) j r s.st x) (N := s.B.1.length) (fun x => (r, s.st, x)) (fun j x => x = (List.range j).map fun j => (s.B.1.getD j ad).1) (fun n x _=>by
    show HF k _ s.B.1 (s.B.1.length:Int) (s.B.1.length:Int) r s.st x=_;unfold HF;simp) (fun n j x hj hx=>by
    refine⟨x++[(s.B.1.getD j ad).1],?_,?_⟩
    · show HF k (HE k n) s.B.1 (s.B.1.length:Int) (j:Int) r s.st x=_;unfold HF;have hl:x.length=j:=by simp_all
      rw[aa (by grind),qC,aa hj,qI (by omega) (by omega),ao,qD hj (by omega)];rfl
    · rw[hx,List.range_succ,List.map_append];rfl) (n:=k) (s:=[]) (by omega) rfl
  have hb:∀i,i<x.length→-9223372036854775808≤x.getD i 0∧x.getD i 0<9223372036854775808:=by
    intro i hi;have hm:x.getD i 0∈x:=fg hi;rw[h2] at hm;obtain⟨j,hj,e⟩:=List.mem_map.1 hm;have:=pH.1 (h.bk.acct j (List.mem_range.1 hj));grind
  have hlen:x.length=s.B.1.length:=by simp_all
  have L7:iV x=s.to:=by rw[h2,ZE];exact h.sum
  have fK:xI (iV x)=true:=by rw[L7];unfold xI;grind
  have eU:L6 k r s.st=(vN k s.t 0 r.2.2.2.1).bind fun x0=>
     bif !x0 then some false
     else(Bz k s.B.1 s.B.2.1 s.B.2.2.1 s.B.2.2.2).bind fun x1=>
     bif !x1 then some false
     else bif !(decide ((s.B.1.length:Int)=r.1)) then some false
     else(L5 k r s.st).bind fun x2=>
     bif !x2 then some false
     else(LY k s.st).bind fun x3=>
     bif !x3 then some false
     else(HE k k s.B.1 (s.B.1.length:Int) 0 r s.st []).bind fun z=>
     (F0 k z.2.2).bind fun x4=>
     bif !x4.2 then some false
     else bif !(decide (x4.1=z.2.1.2.2.2.2.2.2.2.2.2.1)) then some false
     else(vN k x4.1 0 1152921504606846976).bind fun x5=>
     bif !x5 then some false
     else(B2 k z.1.1 z.1.2.1 z.1.2.2.1 z.1.2.2.2.1 z.1.2.2.2.2 z.2.1.1).bind fun x6=>
     bif mR z.2.1.2.2.2.2.2.2.2.2.2.2 x6 then (bif !z.2.1.2.2.2.2.2.2.2.2.2.2 then some true
      else some (decide ((z.2.1.2.2.2.2.2.2.2.1.length:Int)=0)))
     else some false:=rfl
  have ec:∀b:Bool,mR b b=true:=fun b=>by cases b<;>rfl
  have eo:s.st.2.2.2.2.2.2.2.2.2.2=s.ov:=rfl;have em:s.st.2.2.2.2.2.2.2.1=s.m:=rfl;have et:s.st.2.2.2.2.2.2.2.2.2.1=s.to:=rfl;have e1:s.st.1=s.t:=rfl;have ecl:B2 k r.1 r.2.1 r.2.2.1 r.2.2.2.1 r.2.2.2.2 s.t=some (decide (s.t=r.2.2.2.1)):=rfl;rw[eU,nB,aa (by grind),aa (by grind),ZF,aa h.n,vZc hk hr h,vU3 hk h,h1];simp;rw[yP7 (by omega) (by omega) hb,fK,L7];simp;rw[et,aa (by simp),nB,aa (by grind),aa (by grind)];rw[e1,ecl,eo,em,←h.over];simp only[ae];rw[ec];cases ho:s.ov with
  |false=>rfl
  |true=>rw[h.none ho];rfl
instance Cw:DecidableEq zH:=fun a b=>inferInstanceAs (Decidable (a=b))
theorem vEk {k}{a b:List zH}(hk:a.length<k)(hl:a.length<9223372036854775808):Cx k a b=some (decide (a=b)):=by
 unfold Cx;by_cases hlen:a.length=b.length
 case neg=>
  have e:decide (((a.length:Nat):Int)=((b.length:Nat):Int))=false:=by grind
  have:a≠b:=by grind
  simp_all
 have e:decide (((a.length:Nat):Int)=((b.length:Nat):Int))=true:=by grind
 have := mo (L := fun n i => L8 k n a b i) (N := a.length) (fun i => decide (a.getD i pd = b.getD i pd)) (.inl ()) (.inr false) (fun n=>by
  show HG k _ a b a.length=_;unfold HG;simp) (fun n i hi=>by
  show HG k _ a b i=_;unfold HG;have e7:=eq7 (a.getD i pd) (b.getD i pd);simp only[qC,qD hi hl];simp_all) hk
 rw[this,O0 pd hlen];grind
theorem ZG {r s}(hr:vM r)(h:qW r s):jN 1000 s.st s.st=some true:=by
 have hb:wN s.B.1 s.B.2.1 s.B.2.2.1 s.B.2.2.2:=h.bk;have gJ:=h.bk.n6;have me:=h.bk.n1;have hm:=h.waits.len;have hi:=h.waits.idl;have h3:=hr.n3;have hL:=h.laid 0 (by omega);have e1:E0 1000 s.B.1 s.B.2.1 s.B.2.2.1 s.B.2.2.2 s.B.1 s.B.2.1 s.B.2.2.1 s.B.2.2.2=some true:=by
  rw[yLy (by decide) hb.toSized];simp
 have e2:oq 1000 s.pr s.pr=some true:=by rw[EX (by rw[hL.pl];omega) (by rw[hL.pl];omega),aa rfl]
 have e3:uA 1000 s.ho s.ho=some true:=by
  have hol:=h.hol;rw [O1 (by omega) (by omega) (fun i hi=>by
   have:=(h.laid i (by omega)).hl;omega),aa rfl]
 have e4:Cx 1000 s.m s.m=some true:=by rw[vEk (by omega) (by omega),aa rfl]
 have e5:oq 1000 s.ids s.ids=some true:=by rw[EX (by omega) (by omega),aa rfl]
 unfold jN;have f0:s.st.1=s.t:=rfl;have f9:s.st.2.2.2.2.2.2.2.2.2.1=s.to:=rfl;have f10:s.st.2.2.2.2.2.2.2.2.2.2=s.ov:=rfl;have q:mR s.ov s.ov=true:=by cases s.ov<;>rfl
 rw[f0,f9,f10,aa rfl,aa rfl,q];refine(congrArg (fun z=>Option.bind z _) e1).trans ?_;refine(congrArg (fun z=>Option.bind z _) e2).trans ?_;refine(congrArg (fun z=>Option.bind z _) e3).trans ?_;refine(congrArg (fun z=>Option.bind z _) e4).trans ?_;refine(congrArg (fun z=>Option.bind z _) e5).trans ?_;rfl
def jY (r:qG):zU where
 t:=0
 B:=(List.replicate r.1.toNat (0,0,0),List.replicate r.1.toNat (List.replicate r.1.toNat (-1)),List.replicate r.1.toNat (-1),List.replicate r.1.toNat (List.replicate r.1.toNat 0))
 pr:=r.2.1.map Prod.fst
 ho:=List.replicate r.1.toNat (List.replicate r.2.1.length 0)
 m:=[]
 ids:=[]
 to:=0
 ov:=false
structure tm (r:qG):Prop where
 ok:vM r
 inv:qW r (jY r)
 new:ru 1000 r=some (jY r).st
 cl:r.2.2.2.1≤20
 ad8:ru 20000 r=some (jY r).st
theorem QT n:kk n [] [] where
 dist:=List.Pairwise.nil
 len:=by decide
 sort:=List.Pairwise.nil
 may:=by simp
 time:=by simp
 were:=by simp
 asc:=List.Pairwise.nil
 pos:=by simp
 idl:=by decide
def r0:qG:=(3,[(100,1000),(7,0)],12,20,4)
def r1:qG:=(4,[(100,1000),(7,0)],12,20,100)
def r2:qG:=(3,[],20,20,4)
def r3:qG:=(3,[(100,1000),(7,0)],0,6,1)
theorem ZH {pr h}(h1:pr=[100,7])(h2:h=[0,0]):kV [(100,1000),(7,0)] pr h:=by
 subst h1;subst h2;exact⟨by decide,rfl,rfl,by decide,by decide,by decide⟩
theorem QU {B}(h:nu B.1 B.2.1 B.2.2.1 B.2.2.2=true):qP B:=OZ.1 h
theorem vWb:tm r0:=⟨⟨by decide,by decide,by decide,by decide,by decide,by decide,by decide⟩,
  { tk:=by decide,bk:=QU (by rfl),n:=rfl,hol:=rfl,
    laid:=fun i hi=>by
      have e:∀i,i<(jY r0).B.1.length→(jY r0).ho.getD i []=[0,0]:=by decide
      exact ZH rfl (e i hi)
    cred:=by decide,most:=by decide,waits:=QT _,sum:=by decide,tot:=by decide,over:=by decide,none:=nofun},by rfl,by decide,by rfl⟩
theorem vRz:tm r1:=⟨⟨by decide,by decide,by decide,by decide,by decide,by decide,by decide⟩,
  { tk:=by decide,bk:=QU (by rfl),n:=rfl,hol:=rfl,
    laid:=fun i hi=>by
      have e:∀i,i<(jY r1).B.1.length→(jY r1).ho.getD i []=[0,0]:=by decide
      exact ZH rfl (e i hi)
    cred:=by decide,most:=by decide,waits:=QT _,sum:=by decide,tot:=by decide,over:=by decide,none:=nofun},by rfl,by decide,by rfl⟩
theorem vMf:tm r2:=⟨⟨by decide,by decide,by decide,by decide,by decide,by decide,by decide⟩,
  { tk:=by decide,bk:=QU (by rfl),n:=rfl,hol:=rfl,
    laid:=fun i hi=>by
      have e:∀i,i<(jY r2).B.1.length→(jY r2).ho.getD i []=[]:=by decide
      rw[e i hi];exact⟨by decide,rfl,rfl,by decide,by decide,by decide⟩
    cred:=by decide,most:=by decide,waits:=QT _,sum:=by decide,tot:=by decide,over:=by decide,none:=nofun},by rfl,by decide,by rfl⟩
theorem ZI:tm r3:=⟨⟨by decide,by decide,by decide,by decide,by decide,by decide,by decide⟩,
  { tk:=by decide,bk:=QU (by rfl),n:=rfl,hol:=rfl,
    laid:=fun i hi=>by
      have e:∀i,i<(jY r3).B.1.length→(jY r3).ho.getD i []=[0,0]:=by decide
      exact ZH rfl (e i hi)
    cred:=by decide,most:=by decide,waits:=QT _,sum:=by decide,tot:=by decide,over:=by decide,none:=nofun},by rfl,by decide,by rfl⟩
structure Tk (L:fV) (N:Nat):Prop where
 side:L.1=0∨L.1=1
 gen:1≤L.2.1∧L.2.1≤(N:Int)+1
 rows:0≤L.2.2.1∧L.2.2.1≤(N:Int)
 stale:L.2.2.2=false
theorem Tk.more {L N M}(h:Tk L N)(hN:N≤M):Tk L M:=⟨h.side,⟨h.gen.1,by have:=h.gen.2;omega⟩,⟨h.rows.1,by have:=h.rows.2;omega⟩,h.stale⟩
structure aem (k:Nat) (s:Ey) (b:AC):Prop where
 is:mr k s=some b
 len:b.length≤50000
theorem ZJ {c:Nat}{l:EQ}(h:∀x∈l,x.length≤c):(qA l).length≤8*(c+1)*l.length:=by
 induction l with
 |nil=>simp[qA]
 |cons x l ih=>
  have h1:=ih fun y hy=>h y (List.mem_cons_of_mem _ hy)
  have h2:=h x (List.mem_cons_self ..);have h3:8*(c+1)*(l.length+1)=8*(c+1)*l.length+8*(c+1):=Nat.mul_succ _ _;simp only[qA,List.flatMap_cons,au,fj,List.length_cons] at h1⊢;rw[h3];omega
theorem ZK {l:EQ}{n:Nat}(h:∀i,i<l.length→(l.getD i []).length=n){x:AC}(hx:x∈l):x.length=n:=by
 obtain⟨i,hi,e⟩:=List.mem_iff_getElem.1 hx;have:=h i hi;rw[bL,List.getElem?_eq_getElem hi] at this;rw[←e];exact this
theorem ZL {r:qG}(hr:vM r){s:zU}(h:qW r s):∃l,wF s.st=l++[s.ids]∧l.length≤67∧∀x∈l,x.length≤9:=by
 have n6:=h.bk.n6;have n1:=h.bk.n1;have hm:=h.waits.len;have h3:=hr.n3;have hb:wN s.B.1 s.B.2.1 s.B.2.2.1 s.B.2.2.2:=h.bk;have hL:=h.laid 0 (by omega);have hol:=h.hol;refine⟨_,rfl,?_,fun x hx=>?_⟩
 ·simp only[au,List.length_cons,List.length_nil,List.length_map];show 0+1+s.B.1.length+s.B.2.1.length+(0+1)+s.B.2.2.2.length+(0+1)+s.ho.length+s.m.length≤67;have:=hb.bl;have:=hb.pl;omega
 ·simp only[List.mem_append,List.mem_singleton,List.mem_map] at hx;rcases hx with(((((((rfl|⟨a,_,rfl⟩)|hx)|rfl)|hx)|rfl)|hx)|⟨a,_,rfl⟩)
  ·simp
  ·simp[wJ]
  ·have:=ZK (l:=s.B.2.1) (fun i hi=>hb.br i (by have:=hb.bl;omega)) hx;omega
  ·show s.B.2.2.1.length≤9;have:=hb.ml;omega
  ·have:=ZK (l:=s.B.2.2.2) (fun i hi=>hb.pr i (by have:=hb.pl;omega)) hx;omega
  ·show s.pr.length≤9;rw[hL.pl];omega
  ·have:=ZK (l:=s.ho) (fun i hi=>(h.laid i (by omega)).hl) hx;omega
  ·simp[vL]
theorem ZM {k:Nat}(hk:1000≤k){r:qG}(hr:vM r){s:zU}(h:qW r s):∃b,mr k s.st=some b∧b=qA (wF s.st)∧b.length≤7000:=by
 obtain⟨l,e,h1,h2⟩:=ZL hr h;have hi:=h.waits.idl;have hf:wY (wF s.st):=by
  rw[e];refine⟨by rw[au];simp;omega,fun x hx=>?_⟩;rcases List.mem_append.1 hx with hx|hx
  ·have:=h2 x hx;omega
  ·rw[List.mem_singleton.1 hx];omega
 refine⟨_,yW4 hk hf,rfl,?_⟩;rw[e];have:=ZJ h2;have e2:qA (l++[s.ids])=qA l++qV s.ids:=by simp[qA]
 rw[e2,au,fj];omega
def jA (r:qG)(s:zU)(ev:Int):xv:=(r.1,r.2.1,r.2.2.1,r.2.2.2.1,r.2.2.2.2,s.t,s.B.1,s.B.2.1,s.B.2.2.1,s.B.2.2.2,s.pr,s.ho,s.m,s.ids,s.to,s.ov,ev,false)
structure ZN (r:qG) (ev:Int) (N:Nat) (s:zU) (G:xv) (L:fV) (D:vX):Prop where
 g:G=jA r s ev
 inv:qW r s
 calm:Wv D
 room:D.1=200000
 x:(vB D 0).length≤20000+100*N
 y:(vB D 1).length≤20000+100*N
 tk:Tk L N
theorem ZN.more {r:qG}{ev:Int}{N M:Nat}{s:zU}{G:xv}{L:fV}{D:vX}(h:ZN r ev N s G L D)(hM:N≤M):ZN r ev M s G L D:=
 ⟨h.g,h.inv,h.calm,h.room,by have:=h.x;omega,by have:=h.y;omega,h.tk.more hM⟩
def ZO (k:Nat)(r:qG)(s:zU)(a:Int)(m:zC×Int)(t:zU)(o:List qE):Prop:=
 (m.2≠0∧t=s∧o=[(a,16,m.2,0,0,0,0,0)])∨
 (m.2=0∧∃u p e,ig k r s.st (a,m.1)=some (u,p,e)∧((e≠0∧t=s∧o=[(a,16,e,0,0,0,0,0)])∨(e=0∧u=t.st∧o=p)))
theorem ZP (x y:Int):wR false x y=max x y:=by
 unfold wR;by_cases h:y>x
 ·rw[aa h];show y=_;omega
 ·rw[ab h];show x=_;omega
theorem vWn (x y:Int):wR true x y=min x y:=by
 unfold wR;by_cases h:y<x
 ·rw[aa h];show y=_;omega
 ·rw[ab h];show x=_;omega
section
variable {k:Nat} {ro sx sy cA cK op:Int} {x y b:AC} {ar:Bool}
theorem L9 (hx:0≤sx∧sx≤(x.length:Int))(hy:0≤sy∧sy≤(y.length:Int))(lx:x.length≤1000000)(ly:y.length≤1000000)(hk:cK<9223372036854775808):
  lg k (ro,x,sx,y,sy,cA,cK,ar,false,op)=some (false,(ro,x,sx,y,sy,cA,cK,ar,false,zA (op+1)))∨
  (ar=true∧∃a c:Nat,sx≤(a:Int)∧a≤x.length∧sy≤(c:Int)∧c≤y.length∧lg k (ro,x,sx,y,sy,cA,cK,ar,false,op)=some (true,(ro,x.take a,(a:Int),y.take c,(c:Int),cA,cK,ar,true,op))):=by
 cases ar with
 |false=>exact .inl rfl
 |true=>
 by_cases h:op<cA
 ·left;unfold lg;dsimp only;rw[aB,ak,aa h];rfl
 ·right;refine⟨rfl,?_⟩;obtain⟨a,ha⟩:∃a:Nat,sx+min (max cK 0) ((x.length:Int)-sx)=(a:Int):=⟨(sx+min (max cK 0) ((x.length:Int)-sx)).toNat,by omega⟩;obtain⟨c,hc⟩:∃c:Nat,sy+min (max cK 0-min (max cK 0) ((x.length:Int)-sx)) ((y.length:Int)-sy)=(c:Int):=⟨(sy+min (max cK 0-min (max cK 0) ((x.length:Int)-sx)) ((y.length:Int)-sy)).toNat,by omega⟩;refine⟨a,c,by omega,by omega,by omega,by omega,?_⟩;have w1:zA ((x.length:Int)-sx)=(x.length:Int)-sx:=zO (by omega) (by omega);have w2:zA ((y.length:Int)-sy)=(y.length:Int)-sy:=zO (by omega) (by omega);have w3:zA (max cK 0-min (max cK 0) ((x.length:Int)-sx))=max cK 0-min (max cK 0) ((x.length:Int)-sx):=zO (by omega) (by omega);have w4:zA (sx+min (max cK 0) ((x.length:Int)-sx))=(a:Int):=by rw[ha];exact zO (by omega) (by omega)
  have w5:zA (sy+min (max cK 0-min (max cK 0) ((x.length:Int)-sx)) ((y.length:Int)-sy))=(c:Int):=by rw[hc];exact zO (by omega) (by omega)
  unfold lg;dsimp only;simp only[ZP,vWn,w1,w2,w3,w4,w5];rw[aB,ak,ab h,ak,aa (show(0:Int)≤(a:Int) by omega),aa (show(a:Int)≤(x.length:Int) by omega),aa (show(0:Int)≤(c:Int) by omega),aa (show(c:Int)≤(y.length:Int) by omega)];simp only[Bool.and_self,ag,ao,Nat.sub_zero]
end
structure pI (D:vX):Prop where
 x:D.2.2.1=(D.2.1.length:Int)
 y:D.2.2.2.2.1=(D.2.2.2.1.length:Int)
 room:0≤D.1∧D.1≤200000
 lx:(D.2.1.length:Int)≤D.1
 ly:(D.2.2.2.1.length:Int)≤D.1
 ck:D.2.2.2.2.2.2.1<9223372036854775808
def lh (D:vX):Bool:=D.2.2.2.2.2.2.2.2.1
def jD (D:vX):Bool:=D.2.2.2.2.2.2.2.1
structure nF (D D':vX) (i:Int) (c:AC) (dn:Bool):Prop where
 clean:pI D'
 room:D'.1=D.1
 it:vB D' i=c
 oth:vB D' (1-i)=vB D (1-i)
 dn:lh D'=dn
 ar:jD D'=jD D
theorem yXs {k:Nat}{D:vX}(h:pI D)(hu:lh D=false){i:Int}(hi:i=0∨i=1){b:AC}(hb:b.length≤100000):
  ((b.length:Int)>D.1-((vB D i).length:Int)∧yn k D i b=some (3,D))∨
  (jD D=true∧∃D',yn k D i b=some (11,D')∧nF D D' i (vB D i) true)∨
  ((b.length:Int)≤D.1-((vB D i).length:Int)∧∃D1,yn k D i b=some (0,D1)∧((∃D2,vj k D1=some (0,D2)∧nF D D2 i (vB D i++b) false)∨(jD D=true∧∃(D2:vX) (j:Nat),vj k D1=some (11,D2)∧j≤b.length∧nF D D2 i (vB D i++b.take j) true))):=by
 obtain⟨ro,x,sx,y,sy,cA,cK,ar,dn,op⟩:=D;obtain⟨h1,h2,h3,h4,h5,h6⟩:=h;dsimp only at h1 h2 h3 h4 h5 h6;have hu:dn=false:=hu;subst h1 h2 hu;rcases hi with rfl|rfl
 ·have hw:zA (ro-(x.length:Int))=ro-(x.length:Int):=zO (by omega) (by omega);by_cases hf:(b.length:Int)>ro-(x.length:Int)
  ·refine .inl ⟨hf,?_⟩;show(bif decide ((b.length:Int)>zA (ro-(x.length:Int))) then _ else _)=_;rw[hw,aa hf];rfl
  ·right;have eA:yn k (ro,x,(x.length:Int),y,(y.length:Int),cA,cK,ar,false,op) 0 b=(lg k (ro,x,(x.length:Int),y,(y.length:Int),cA,cK,ar,false,op)).bind fun x2=>bif x2.1 then some (11,x2.2) else bif zL (x2.2.2.1.length+b.length) 1 then some (0,x2.2.1,(x2.2.2.1++b),x2.2.2.2) else none:=by
    show(bif decide ((b.length:Int)>zA (ro-(x.length:Int))) then _ else _)=_;rw[hw,ab hf];rfl
   rcases L9 (k:=k) (ro:=ro) (sx:=x.length) (sy:=y.length) (cA:=cA) (cK:=cK) (op:=op) (x:=x) (y:=y) (ar:=ar) ⟨by omega,by omega⟩ ⟨by omega,by omega⟩ (by omega) (by omega) h6 with g|⟨ha,a,c,a1,a2,c1,c2,g⟩
   ·right;refine⟨by show(b.length:Int)≤ro-(x.length:Int);omega,(ro,x++b,(x.length:Int),y,(y.length:Int),cA,cK,ar,false,zA (op+1)),?_,?_⟩
    ·rw[eA,g,ae];dsimp only;rw[ak,qI (by omega) (by omega)];rfl
    ·have eS:vj k (ro,x++b,(x.length:Int),y,(y.length:Int),cA,cK,ar,false,zA (op+1))=(lg k (ro,x++b,(x.length:Int),y,(y.length:Int),cA,cK,ar,false,zA (op+1))).bind fun x1=>bif x1.1 then some (11,x1.2) else some (0,x1.2.1,x1.2.2.1,(x1.2.2.1.length:Int),x1.2.2.2.2.1,(x1.2.2.2.2.1.length:Int),x1.2.2.2.2.2.2):=rfl
     have hl:(x++b).length=x.length+b.length:=au;rcases L9 (k:=k) (ro:=ro) (sx:=x.length) (sy:=y.length) (cA:=cA) (cK:=cK) (op:=zA (op+1)) (x:=x++b) (y:=y) (ar:=ar) ⟨by omega,by omega⟩ ⟨by omega,by omega⟩ (by omega) (by omega) h6 with g'|⟨ha,a,c,a1,a2,c1,c2,g'⟩
     ·refine .inl ⟨(ro,x++b,((x++b).length:Int),y,(y.length:Int),cA,cK,ar,false,zA (zA (op+1)+1)),by rw[eS,g'];rfl,⟨rfl,rfl,h3,?_,h5,h6⟩,rfl,rfl,rfl,rfl,rfl⟩;show((x++b).length:Int)≤ro;omega
     ·have ec:c=y.length:=by omega
      subst ec;have e1:(x++b).take a=x++b.take (a-x.length):=by rw[List.take_append,List.take_of_length_le (show x.length≤a by omega)]
      refine .inr ⟨ha,(ro,x++b.take (a-x.length),(a:Int),y,(y.length:Int),cA,cK,ar,true,zA (op+1)),a-x.length,by rw[eS,g',e1,List.take_length];rfl,by omega,⟨?_,rfl,h3,?_,h5,h6⟩,rfl,rfl,rfl,rfl,rfl⟩
      ·show(a:Int)=((x++b.take (a-x.length)).length:Int);rw[au,bQ];omega
      ·show((x++b.take (a-x.length)).length:Int)≤ro;rw[au,bQ];omega
   ·left;have ea:a=x.length:=by omega
    have ec:c=y.length:=by omega
    subst ea ec;rw[List.take_length,List.take_length] at g;exact⟨ha,(ro,x,(x.length:Int),y,(y.length:Int),cA,cK,ar,true,op),by rw[eA,g];rfl,⟨rfl,rfl,h3,h4,h5,h6⟩,rfl,rfl,rfl,rfl,rfl⟩
 ·have hw:zA (ro-(y.length:Int))=ro-(y.length:Int):=zO (by omega) (by omega);by_cases hf:(b.length:Int)>ro-(y.length:Int)
  ·refine .inl ⟨hf,?_⟩;show(bif decide ((b.length:Int)>zA (ro-(y.length:Int))) then _ else _)=_;rw[hw,aa hf];rfl
  ·right;have eA:yn k (ro,x,(x.length:Int),y,(y.length:Int),cA,cK,ar,false,op) 1 b=(lg k (ro,x,(x.length:Int),y,(y.length:Int),cA,cK,ar,false,op)).bind fun x3=>bif x3.1 then some (11,x3.2) else bif zL (x3.2.2.2.2.1.length+b.length) 1 then some (0,x3.2.1,x3.2.2.1,x3.2.2.2.1,(x3.2.2.2.2.1++b),x3.2.2.2.2.2) else none:=by
    show(bif decide ((b.length:Int)>zA (ro-(y.length:Int))) then _ else _)=_;rw[hw,ab hf];rfl
   rcases L9 (k:=k) (ro:=ro) (sx:=x.length) (sy:=y.length) (cA:=cA) (cK:=cK) (op:=op) (x:=x) (y:=y) (ar:=ar) ⟨by omega,by omega⟩ ⟨by omega,by omega⟩ (by omega) (by omega) h6 with g|⟨ha,a,c,a1,a2,c1,c2,g⟩
   ·right;refine⟨by show(b.length:Int)≤ro-(y.length:Int);omega,(ro,x,(x.length:Int),y++b,(y.length:Int),cA,cK,ar,false,zA (op+1)),?_,?_⟩
    ·rw[eA,g,ae];dsimp only;rw[ak,qI (by omega) (by omega)];rfl
    ·have eS:vj k (ro,x,(x.length:Int),y++b,(y.length:Int),cA,cK,ar,false,zA (op+1))=(lg k (ro,x,(x.length:Int),y++b,(y.length:Int),cA,cK,ar,false,zA (op+1))).bind fun x1=>bif x1.1 then some (11,x1.2) else some (0,x1.2.1,x1.2.2.1,(x1.2.2.1.length:Int),x1.2.2.2.2.1,(x1.2.2.2.2.1.length:Int),x1.2.2.2.2.2.2):=rfl
     have hl:(y++b).length=y.length+b.length:=au;rcases L9 (k:=k) (ro:=ro) (sx:=x.length) (sy:=y.length) (cA:=cA) (cK:=cK) (op:=zA (op+1)) (x:=x) (y:=y++b) (ar:=ar) ⟨by omega,by omega⟩ ⟨by omega,by omega⟩ (by omega) (by omega) h6 with g'|⟨ha,a,c,a1,a2,c1,c2,g'⟩
     ·refine .inl ⟨(ro,x,(x.length:Int),y++b,((y++b).length:Int),cA,cK,ar,false,zA (zA (op+1)+1)),by rw[eS,g'];rfl,⟨rfl,rfl,h3,h4,?_,h6⟩,rfl,rfl,rfl,rfl,rfl⟩;show((y++b).length:Int)≤ro;omega
     ·have ea:a=x.length:=by omega
      subst ea;have e1:(y++b).take c=y++b.take (c-y.length):=by rw[List.take_append,List.take_of_length_le (show y.length≤c by omega)]
      refine .inr ⟨ha,(ro,x,(x.length:Int),y++b.take (c-y.length),(c:Int),cA,cK,ar,true,zA (op+1)),c-y.length,by rw[eS,g',e1,List.take_length];rfl,by omega,⟨rfl,?_,h3,h4,?_,h6⟩,rfl,rfl,rfl,rfl,rfl⟩
      ·show(c:Int)=((y++b.take (c-y.length)).length:Int);rw[au,bQ];omega
      ·show((y++b.take (c-y.length)).length:Int)≤ro;rw[au,bQ];omega
   ·left;have ea:a=x.length:=by omega
    have ec:c=y.length:=by omega
    subst ea ec;rw[List.take_length,List.take_length] at g;exact⟨ha,(ro,x,(x.length:Int),y,(y.length:Int),cA,cK,ar,true,op),by rw[eA,g];rfl,⟨rfl,rfl,h3,h4,h5,h6⟩,rfl,rfl,rfl,rfl,rfl⟩
theorem vSf {k:Nat}{D:vX}(h:pI D)(hu:lh D=false){i:Int}(hi:i=0∨i=1):
  (∃D',QV k D i=some (0,D')∧nF D D' i [] false)∨(jD D=true∧∃D',QV k D i=some (11,D')∧nF D D' i (vB D i) true):=by
 obtain⟨ro,x,sx,y,sy,cA,cK,ar,dn,op⟩:=D;obtain⟨h1,h2,h3,h4,h5,h6⟩:=h;dsimp only at h1 h2 h3 h4 h5 h6;have hu:dn=false:=hu;subst h1 h2 hu;rcases L9 (k:=k) (ro:=ro) (sx:=x.length) (sy:=y.length) (cA:=cA) (cK:=cK) (op:=op) (x:=x) (y:=y) (ar:=ar) ⟨by omega,by omega⟩ ⟨by omega,by omega⟩ (by omega) (by omega) h6 with g|⟨ha,a,c,a1,a2,c1,c2,g⟩
 ·left;rcases hi with rfl|rfl
  ·refine⟨(ro,[],0,y,(y.length:Int),cA,cK,ar,false,zA (op+1)),?_,⟨rfl,rfl,h3,by show(0:Int)≤ro;omega,h5,h6⟩,rfl,rfl,rfl,rfl,rfl⟩;show(lg k (ro,x,(x.length:Int),y,(y.length:Int),cA,cK,ar,false,op)).bind _=_;rw[g];rfl
  ·refine⟨(ro,x,(x.length:Int),[],0,cA,cK,ar,false,zA (op+1)),?_,⟨rfl,rfl,h3,h4,by show(0:Int)≤ro;omega,h6⟩,rfl,rfl,rfl,rfl,rfl⟩;show(lg k (ro,x,(x.length:Int),y,(y.length:Int),cA,cK,ar,false,op)).bind _=_;rw[g];rfl
 ·right;have ea:a=x.length:=by omega
  have ec:c=y.length:=by omega
  subst ea ec;rw[List.take_length,List.take_length] at g;refine⟨ha,(ro,x,(x.length:Int),y,(y.length:Int),cA,cK,ar,true,op),?_,⟨rfl,rfl,h3,h4,h5,h6⟩,rfl,?_,?_,rfl,rfl⟩
  ·rcases hi with rfl|rfl
   ·show(lg k (ro,x,(x.length:Int),y,(y.length:Int),cA,cK,ar,false,op)).bind _=_;rw[g];rfl
   ·show(lg k (ro,x,(x.length:Int),y,(y.length:Int),cA,cK,ar,false,op)).bind _=_;rw[g];rfl
  ·rcases hi with rfl|rfl<;>rfl
  ·rcases hi with rfl|rfl<;>rfl
theorem nF.trans {D D1 D2 i c d p q}(h:nF D D1 i c p)(g:nF D1 D2 i d q):nF D D2 i d q:=
 ⟨g.clean,g.room.trans h.room,g.it,g.oth.trans h.oth,g.dn,g.ar.trans h.ar⟩
inductive Cy (D:vX) (i:Int) (R:AC):Int→vX→Prop
 |full (h:(R.length:Int)>D.1):Cy D i R 10 D
 |ok {D':vX} (h:nF D D' i R false):Cy D i R 0 D'
 |none {D':vX} (ha:jD D=true) (h:nF D D' i (vB D i) true):Cy D i R 11 D'
 |torn {D':vX} {j:Nat} (ha:jD D=true) (hj:j≤R.length) (h:nF D D' i (R.take j) true):Cy D i R 11 D'
theorem vZm {k:Nat}(hk:9≤k){D:vX}(h:pI D)(hu:lh D=false){i:Int}(hi:i=0∨i=1){g:Int}(hg:1≤g∧g≤4611686018427387904){b:AC}(hb:b.length≤50000):
  ∃e D',Ma k D i g b=some (e,D')∧Cy D i (wI (yB g++b)) e D':=by
 have hlen:(wI (yB g++b)).length=b.length+10:=by rw[uz,au];show 8+b.length+2=_;omega
 have od:=h.room;unfold Ma;rw[JR hk [g] (by simp) (by simp;omega),ae,show yN [g]=yB g by simp[yN]];rw[qI (by show(8+b.length)*1≤_;omega) (by show 8+b.length≤_;omega),ag,yOe,if_pos (by rw[au];show 8+b.length≤_;omega),ae];dsimp only;rw[aB,ak,ab (by omega),ak];rw[show ZQ k D=some D.1 from rfl,ae];by_cases hf:((wI (yB g++b)).length:Int)>D.1
 ·rw[aa hf];exact⟨10,D,rfl,.full hf⟩
 rw[ab hf,ak];rcases vSf (k:=k) h hu hi with⟨D1,w1,w2⟩|⟨ha,D1,w1,w2⟩
 ·rw[w1,ae];dsimp only;rw[aa rfl,aB,ak];have hr:=w2.room;rcases yXs (k:=k) w2.clean w2.dn hi (b:=wI (yB g++b)) (by omega) with⟨p1,_⟩|⟨ha,D2,p1,p2⟩|⟨_,D2,p1,⟨D3,p2,p3⟩|⟨ha,D3,j,p2,p3,p4⟩⟩
  ·rw[w2.it,hr] at p1;have:(([]:AC).length:Int)=0:=rfl;omega
  ·rw[p1,ae];dsimp only;rw[ab (by decide)];rw[w2.it] at p2;exact⟨11,D2,rfl,.torn (j:=0) (w2.ar.symm.trans ha) (by omega) (by rw[List.take_zero];exact w2.trans p2)⟩
  ·rw[p1,ae];dsimp only;rw[aa rfl,aB,ak,p2,ae];rw[w2.it,List.nil_append] at p3;exact⟨0,D3,rfl,.ok (w2.trans p3)⟩
  ·rw[p1,ae];dsimp only;rw[aa rfl,aB,ak,p2,ae];rw[w2.it,List.nil_append] at p4;exact⟨11,D3,rfl,.torn (w2.ar.symm.trans ha) p3 (w2.trans p4)⟩
 ·rw[w1,ae];dsimp only;rw[ab (by decide)];exact⟨11,D1,rfl,.none ha w2⟩
inductive Mb (L:fV) (D:vX) (R:AC):Int→fV→vX→Prop
 |full (h:(R.length:Int)>D.1-((vB D L.1).length:Int)):Mb L D R 10 L D
 |ok {D':vX} (h:nF D D' L.1 (vB D L.1++R) false):Mb L D R 0 (L.1,L.2.1,zA (L.2.2.1+1),L.2.2.2) D'
 |torn {D':vX} {j:Nat} (ha:jD D=true) (hj:j≤R.length) (h:nF D D' L.1 (vB D L.1++R.take j) true):Mb L D R 11 L D'
theorem vBv {k:Nat}{D:vX}(h:pI D)(hu:lh D=false){L:fV}(hs:L.1=0∨L.1=1)(dr:L.2.2.2=false){b:AC}(hb:b.length≤60000):
  ∃e L' D',Md k L D b=some (e,L',D')∧Mb L D (wI b) e L' D':=by
 have hlen:=uz b;unfold Md;rw[yOe,if_pos hb,ae,dr];dsimp only;rw[aB,ak,ak];rcases yXs (k:=k) h hu hs (b:=wI b) (by omega) with⟨p1,p2⟩|⟨ha,D2,p1,p2⟩|⟨_,D2,p1,⟨D3,p2,p3⟩|⟨ha,D3,j,p2,p3,p4⟩⟩
 ·rw[p2];exact⟨10,L,D,rfl,.full p1⟩
 ·rw[p1];exact⟨11,L,D2,rfl,.torn (j:=0) ha (by omega) (by rw[List.take_zero,List.append_nil];exact p2)⟩
 ·rw[p1];refine⟨0,(L.1,L.2.1,zA (L.2.2.1+1),L.2.2.2),D3,?_,.ok p3⟩;show(vj k D2).bind _=_;rw[p2,dr];rfl
 ·rw[p1];refine⟨11,L,D3,?_,.torn ha p3 p4⟩;show(vj k D2).bind _=_;rw[p2];rfl
theorem ZR {k:Nat}(hk:9≤k){D:vX}(h:pI D)(hu:lh D=false){L:fV}(hs:L.1=0∨L.1=1)(hg:1≤L.2.1∧L.2.1<4611686018427387904){b:AC}(hb:b.length≤50000):
  ∃e D',vk k L D b=some (e,(if e=0 then(1-L.1,L.2.1+1,0,false) else L),D')∧Cy D (1-L.1) (wI (yB (L.2.1+1)++b)) e D':=by
 have e1:zA (L.2.1+1)=L.2.1+1:=zO (by omega) (by omega);have e2:zA (1-L.1)=1-L.1:=zO (by omega) (by omega);obtain⟨e,D',h1,h2⟩:=vZm (k:=k) hk h hu (i:=1-L.1) (by omega) (g:=L.2.1+1) (by omega) hb;refine⟨e,D',?_,h2⟩;unfold vk;rw[e1,e2,h1,ae];dsimp only;by_cases he:e=0
 ·subst he;rfl
 ·rw[ab he,if_neg he];rfl
structure Cz (b:AC) (g:Int) (S:AC) (rows:EQ):Prop where
 is:∃t,b=jR ((yB g++S)::rows)++t∧Cut t
 gen:1≤g∧g≤4611686018427387904
 len:S.length≤50000
 rl:∀x∈rows,x.length≤60000
 rn:rows.length≤900
theorem yFv {k:Nat}{D:vX}{i:Int}(hi:i=0∨i=1)(hl:(vB D i).length≤1000000):ZS k D i=some (vB D i):=by
 rcases hi with rfl|rfl
 ·have hl:D.2.1.length≤1000000:=hl;show(CA k D.2.1).bind (fun x1=>some x1)=some D.2.1;unfold CA;rw[qI (by omega) (by omega)];rfl
 ·have hl:D.2.2.2.1.length≤1000000:=hl;show(CA k D.2.2.2.1).bind (fun x1=>some x1)=some D.2.2.2.1;unfold CA;rw[qI (by omega) (by omega)];rfl
theorem Me {k:Nat}(hk:1000≤k){D:vX}{i:Int}(hi:i=0∨i=1)(hl:(vB D i).length≤1000000){g:Int}{S:AC}{rows:EQ}(h:Cz (vB D i) g S rows):yo k D i=some (g,S,rows):=by
 obtain⟨⟨t,e,hc⟩,hg,hS,hr,hn⟩:=h;unfold yo;rw[yFv hi hl,ae];have qq:(yB g++S).length=8+S.length:=by rw[au];rfl
 rw[e,au] at hl;rw [e, vEr (l := (yB g ++ S) :: rows) hc (by omega) (fun x hx=>by
  rcases List.mem_cons.1 hx with rfl|hx
  ·omega
  ·exact hr x hx) (by simp;omega) (by simp;omega) (by omega)]
 simp only[ae];have hb:zB 0 ((yB g++S)::rows).length=true:=wV (by omega) (by simp);have ht:List.take 8 (yB g++S)=yB g:=rfl;have hd:List.drop 8 (yB g++S)=S:=rfl;have hs:qR ((yB g++S)::rows) 1 (((yB g++S)::rows).length-1)=rows:=by
  unfold qR;show List.take _ rows=rows;exact List.take_of_length_le (by simp)
 rw[ab (by simp;omega),hb];simp only[ak,ag,List.getD_cons_zero];rw[ab (show¬((yB g++S).length:Int)<8 by omega),aa (show(8:Int)≤((yB g++S).length:Int) by omega),ht,Wx (by omega) (by omega),aa (show(1:Int)≤(((yB g++S)::rows).length:Int) by simp;omega),hd,hs];simp only[ak,ag,ae,List.getD_cons_zero];have fJ:zB 0 [g].length=true:=rfl;rw[fJ,ab (show¬g<1 by omega),ab (show¬g>4611686018427387904 by omega)];rfl
theorem yWn {k}(hk:1000≤k){D i}(hi:i=0∨i=1)(hl:(vB D i).length≤1000000)(h:Cut (vB D i)):yo k D i=some (0,[],[]):=by
 unfold yo;rw[yFv hi hl,ae];have:=vEr (k:=k) h hl (l:=[]) (by simp) (by grind) (by simp) (by simp[jR]);rw[show jR []++vB D i=vB D i from rfl] at this;simp_all
structure Has (D:vX) (m g:Int) (S:AC) (rows:EQ):Prop where
 side:m=0∨m=1
 main:Cz (vB D m) g S rows
 other:Cut (vB D (1-m))∨∃g' S' iA,g'<g∧Cz (vB D (1-m)) g' S' iA
 x:(vB D 0).length≤1000000
 y:(vB D 1).length≤1000000
theorem yS0 {k:Nat}(hk:1000≤k){D:vX}{m g:Int}{S:AC}{rows:EQ}(h:Has D m g S rows):Mh k D=some (g,m,S,rows,true):=by
 have hx:=h.x;have hy:=h.y;have hg:=h.main.gen;unfold Mh;rcases h.side with rfl|rfl
 ·rw[Me hk (.inl rfl) hx h.main,ae];simp only[];rw[aa (show g>0 by omega),ag];rcases h.other with hc|⟨g',S',iA,bn,ho⟩
  ·rw[yWn hk (.inr rfl) hy hc,ae];simp only[];rw[ab (by omega)];rfl
  ·rw[Me hk (.inr rfl) hy ho,ae];simp only[];rw[ab (by omega)];rfl
 ·rcases h.other with hc|⟨g',S',iA,bn,ho⟩
  ·rw[yWn hk (.inl rfl) hx hc,ae];simp only[];rw[ab (by omega),ak,Me hk (.inr rfl) hy h.main,ae];simp only[];rw[aa (show g>0 by omega)];rfl
  ·have hg':=ho.gen;rw[Me hk (.inl rfl) hx ho,ae];simp only[];rw[aa (show g'>0 by omega),ag,Me hk (.inr rfl) hy h.main,ae];simp only[];rw[aa (show g>g' by omega)];rfl
theorem ZT {k}(hk:1000≤k){D m g S rows}(h:Has D m g S rows) f:QW k D f=some (.inl (S,rows,0,D,m,g,(rows.length:Int),true)):=by
 unfold QW;rw[yS0 hk h];rfl
structure fL (k:Nat) (l:AC):Prop where
 n:l.length<k
 m:l.length≤100000
 w:pt l
theorem CB x l b:qA (x::l)++b=qV x++(qA l++b):=by simp[qA]
theorem Mi {k}(hk:9≤k){l}(h:fL k l){b}(hb:b.length≤1000000):yp k (qV l++b,false)=some (l,b,false):=by
 unfold yp;rw[vXp hk h.n h.m h.w b hb];rfl
theorem ZU {k}(hk:9≤k){l}(h:fL k l){n}(hn:l.length=n){b}(hb:b.length≤1000000):HH k (qV l++b,false) (n:Int)=some (l,b,false):=by
 unfold HH;rw[Mi hk h hb];simp_all
theorem yZn {k}(hk:9≤k){b}:∀l n r,(∀x∈l,fL k x)→l.length<n→(qA l++b).length≤1000000→r.length+l.length≤1000000→Mj k n (l.length:Int) (qA l++b,false) r=some ((b,false),r++l)
 |[],n,r,_,hn,_,_=>by
  obtain⟨n,rfl⟩:∃m,n=m+1:=⟨n-1,by omega⟩;rw[List.append_nil];rfl
 |x::l,n,r,h,hn,hb,hr=>by
  obtain⟨n,rfl⟩:∃m,n=m+1:=⟨n-1,by omega⟩;rw[CB,au] at hb;simp  at hn hr;have ih:=yZn hk (b:=b) l n (r++[x]) (by grind) (by omega) (by omega) (by grind);rw[CB];show QX k (Mj k n) ((l.length+1:Nat):Int) (qV x++(qA l++b),false) r=_;unfold QX;rw[Mi hk (by grind) (by omega)];rw[qI (by omega) (by omega),show zA (((l.length+1:Nat):Int)-1)=(l.length:Int) by rw[zO (by omega) (by omega)];omega];simp_all
theorem ZV {k}(hk:9≤k){l}(h:∀x∈l,fL k x)(hn:l.length<k)(hm:l.length≤1000000){b}(hb:(qA l++b).length≤1000000):HI k (qA l++b,false) (l.length:Int)=some (l,b,false):=by
 unfold HI;rw[yZn hk l k [] h hn hb (by simp_all)];rfl
theorem yMi {k}(hk:9≤k){b s0 r2}{b0 b3:Int×Int×Bool}:∀l n (r:List (Int×Int×Int)),(∀x∈l,fL k (wJ x))→l.length<n→(qA (l.map wJ)++b).length≤1000000→r.length+l.length≤1000000→
  HJ k n s0 (l.length:Int) b0 (qA (l.map wJ)++b,false) r2 b3 r=some (s0,b0,(b,false),r2,b3,r++l)
 |[],n,r,_,hn,_,_=>by
  obtain⟨n,rfl⟩:∃m,n=m+1:=⟨n-1,by omega⟩;rw[List.append_nil];rfl
 |x::l,n,r,h,hn,hb,hr=>by
  obtain⟨n,rfl⟩:∃m,n=m+1:=⟨n-1,by omega⟩;rw[List.map_cons,CB,au] at hb;simp  at hn hr;have ih:=yMi hk (b:=b) (s0:=s0) (r2:=r2) (b0:=b0) (b3:=b3) l n (r++[x]) (by grind) (by omega) (by omega) (by grind);show QY k (HJ k n) s0 ((l.length+1:Nat):Int) b0 (qV (wJ x)++(qA (l.map wJ)++b),false) r2 b3 r=_;unfold QY;rw[aa (by omega)];have hj:=ZU hk (h x (by simp)) (n:=3) rfl (b:=qA (l.map wJ)++b) (by omega);rw[show((3:Nat):Int)=3 from rfl] at hj;rw[hj];rw[qI (by omega) (by omega),show zA (((l.length+1:Nat):Int)-1)=(l.length:Int) by rw[zO (by omega) (by omega)];omega];show HJ k n s0 (l.length:Int) b0 (qA (l.map wJ)++b,false) r2 b3 (r++[x])=_;simp_all
theorem vDp {k}(hk:9≤k){b s0}{b0 b2:Int×Int×Bool}{r3:List (Int×Int×Int)}{r4 r6 r8 r5 r7}:∀l n (r:List (Int×Int×Int×Int×Int×Int×Int)),(∀x∈l,fL k (vL x))→l.length<n→(qA (l.map vL)++b).length≤1000000→r.length+l.length≤1000000→
  HK k n s0 (l.length:Int) b0 (qA (l.map vL)++b,false) b2 r3 r4 r5 r6 r7 r8 r=some (s0,b0,(b,false),b2,r3,r4,r5,r6,r7,r8,r++l)
 |[],n,r,_,hn,_,_=>by
  obtain⟨n,rfl⟩:∃m,n=m+1:=⟨n-1,by omega⟩;rw[List.append_nil];rfl
 |x::l,n,r,h,hn,hb,hr=>by
  obtain⟨n,rfl⟩:∃m,n=m+1:=⟨n-1,by omega⟩;rw[List.map_cons,CB,au] at hb;simp only[List.length_cons] at hn hr;have ih:=vDp hk (b:=b) (s0:=s0) (b0:=b0) (b2:=b2) (r3:=r3) (r4:=r4) (r5:=r5) (r6:=r6) (r7:=r7) (r8:=r8) l n (r++[x]) (by grind) (by omega) (by omega) (by grind);show QZ k (HK k n) s0 ((l.length+1:Nat):Int) b0 (qV (vL x)++(qA (l.map vL)++b),false) b2 r3 r4 r5 r6 r7 r8 r=_;unfold QZ;rw[aa (by omega)];have hj:=ZU hk (h x (by simp)) (n:=7) rfl (b:=qA (l.map vL)++b) (by omega);rw[show((7:Nat):Int)=7 from rfl] at hj;rw[hj];simp only[ae];rw[qI (by omega) (by omega),show zA (((l.length+1:Nat):Int)-1)=(l.length:Int) by rw[zO (by omega) (by omega)];omega];show HK k n s0 (l.length:Int) b0 (qA (l.map vL)++b,false) b2 r3 r4 r5 r6 r7 r8 (r++[x])=_;simp_all
theorem ZW s:qA (wF s)=qV [s.1,s.2.2.2.2.2.2.2.2.2.1,bif s.2.2.2.2.2.2.2.2.2.2 then 1 else 0,(s.2.1.length:Int),(s.2.2.1.length:Int),(s.2.2.2.1.length:Int),(s.2.2.2.2.1.length:Int),(s.2.2.2.2.2.2.1.length:Int),(s.2.2.2.2.2.2.2.1.length:Int)]++
  (qA (s.2.1.map wJ)++(qA s.2.2.1++(qV s.2.2.2.1++(qA s.2.2.2.2.1++(qV s.2.2.2.2.2.1++(qA s.2.2.2.2.2.2.1++(qA (s.2.2.2.2.2.2.2.1.map vL)++(qV s.2.2.2.2.2.2.2.2.1++[])))))))):=by
 simp[wF,qA]
theorem vL8 {k}(hk:1000≤k){s}(hf:wY (wF s))(hg:∀x∈wF s,fL k x)(hb:(qA (wF s)).length≤1000000):Mk k (qA (wF s))=some (s,true):=by
 have Mm:=yW4 hk hf;have hn:=hf.n;have e:=ZW s;obtain⟨S,hS⟩:∃S,qA (wF s)=S:=⟨_,rfl⟩;rw[hS] at Mm hb e⊢;obtain⟨t,ac,bi,mu,po,pr,ho,pa,ids,to,ov⟩:=s;have aZ : ∀ x, (x = [t, to, bif ov then 1 else 0, (ac.length : Int), (bi.length : Int), (mu.length : Int), (po.length : Int), (ho.length : Int), (pa.length : Int)] ∨ x ∈ ac.map wJ ∨ x ∈ bi ∨ x = mu ∨ x ∈ po ∨ x = pr ∨ x ∈ ho ∨ x ∈ pa.map vL ∨ x = ids) → fL k x := fun x hx => hg x (by
  simp only[wF,List.mem_append,List.mem_singleton];rcases hx with h|h|h|h|h|h|h|h|h<;>simp[h])
 simp only[wF,au,List.length_cons,List.length_nil,List.length_map] at hn;dsimp only at e;have l1:=congrArg List.length e;simp only[au,fj] at l1;have k9:9≤k:=by omega
 unfold Mk;rw[e];have j9:=ZU k9 (aZ _ (.inl rfl)) (n:=9) rfl (b:=qA (ac.map wJ)++(qA bi++(qV mu++(qA po++(qV pr++(qA ho++(qA (pa.map vL)++(qV ids++[])))))))) (by simp only[au,fj];omega);rw[show((9:Nat):Int)=9 from rfl] at j9;rw[j9,←e];simp only[ae];have a0:=yMi k9 (s0:=S) (r2:=[t,to,bif ov then 1 else 0,(ac.length:Int),(bi.length:Int),(mu.length:Int),(po.length:Int),(ho.length:Int),(pa.length:Int)]) (b0:=(0,0,false)) (b3:=(t,to,decide ((bif ov then(1:Int) else 0)=1))) (b:=qA bi++(qV mu++(qA po++(qV pr++(qA ho++(qA (pa.map vL)++(qV ids++[]))))))) ac k [] (fun x hx=>aZ _ (.inr (.inl (List.mem_map_of_mem hx)))) (by omega) (by simp only[au,fj];omega) (by simp;omega);refine(congrArg (fun z=>Option.bind z _) a0).trans ?_;simp only[ae];have q1:=ZV k9 (l:=bi) (fun x hx=>aZ _ (.inr (.inr (.inl hx)))) (by omega) (by omega) (b:=qV mu++(qA po++(qV pr++(qA ho++(qA (pa.map vL)++(qV ids++[])))))) (by simp only[au,fj];omega);refine(congrArg (fun z=>Option.bind z _) q1).trans ?_;simp only[ae];rw[Mi k9 (aZ mu (.inr (.inr (.inr (.inl rfl))))) (by simp only[au,fj];omega)];simp only[ae];have q2:=ZV k9 (l:=po) (fun x hx=>aZ _ (.inr (.inr (.inr (.inr (.inl hx)))))) (by omega) (by omega) (b:=qV pr++(qA ho++(qA (pa.map vL)++(qV ids++[])))) (by simp only[au,fj];omega);refine(congrArg (fun z=>Option.bind z _) q2).trans ?_;simp only[ae];rw[Mi k9 (aZ pr (.inr (.inr (.inr (.inr (.inr (.inl rfl))))))) (by simp only[au,fj];omega)];simp only[ae];have q3:=ZV k9 (l:=ho) (fun x hx=>aZ _ (.inr (.inr (.inr (.inr (.inr (.inr (.inl hx)))))))) (by omega) (by omega) (b:=qA (pa.map vL)++(qV ids++[])) (by simp only[au,fj];omega);refine(congrArg (fun z=>Option.bind z _) q3).trans ?_;simp only[ae];have p1:=vDp k9 (s0:=S) (b0:=(0,0,false)) (b2:=(t,to,decide ((bif ov then(1:Int) else 0)=1))) (r3:=[]++ac) (r4:=bi) (r5:=mu) (r6:=po) (r7:=pr) (r8:=ho) (b:=qV ids++[]) pa k [] (fun x hx=>aZ _ (.inr (.inr (.inr (.inr (.inr (.inr (.inr (.inl (List.mem_map_of_mem hx)))))))))) (by omega) (by simp only[au,fj];omega) (by simp;omega);refine(congrArg (fun z=>Option.bind z _) p1).trans ?_;simp only[ae];rw[Mi k9 (aZ ids (.inr (.inr (.inr (.inr (.inr (.inr (.inr (.inr rfl))))))))) (by simp)];simp only[ae,ak,List.nil_append];have ZX:decide ((bif ov then(1:Int) else 0)=1)=ov:=by cases ov<;>rfl
 rw[ZX];refine(congrArg (fun z=>Option.bind z _) Mm).trans ?_;simp only[ae];unfold ZY;rw[show rU S S=true from by simp[rU]];rfl
structure mB (r:qG) (s:zU):Prop where
 inv:qW r s
 ids:∀x∈s.ids,x<9223372036854775808
theorem Q0 {α:Type}{d x}{l:List α}(h:x∈l):∃i,i<l.length∧l.getD i d=x:=by
 obtain⟨i,hi,e⟩:=List.mem_iff_getElem.1 h;exact⟨i,hi,by simp_all⟩
theorem vDw {k:Nat}(hk:1000≤k){r:qG}(hr:vM r){s:zU}(h:mB r s):∀x∈wF s.st,fL k x:=by
 have hi:=h.inv;have n6:=hi.bk.n6;have n1:=hi.bk.n1;have hm:=hi.waits.len;have h3:=hr.n3;have hb:wN s.B.1 s.B.2.1 s.B.2.2.1 s.B.2.2.2:=hi.bk;have hL:=hi.laid 0 (by omega);have hol:=hi.hol;have htk:=hi.tk;have DO:=hr.cl;have LD:=hi.tot;have hn:=hi.n;have an:=hi.waits.idl;have b1:=hb.bl;have b2:=hb.pl;have b3:=hb.ml;have few:∀{x:AC},x.length≤200→pt x→fL k x:=fun h1 h2=>⟨by omega,by omega,h2⟩
 have row:∀{l:EQ} {n:Nat} {x:AC},x∈l→l.length=n→(∀i,i<n→(l.getD i []).length≤200)→(∀i,i<n→∀j,j<(l.getD i []).length→-9223372036854775808≤(l.getD i []).getD j 0∧(l.getD i []).getD j 0<9223372036854775808)→fL k x:=by
  intro l n x hx hl h1 h2;obtain⟨i,hi,e⟩:=Q0 (d:=[]) hx;have g1:=h1 i (by omega);have g2:=h2 i (by omega);rw[e] at g1 g2;refine few g1 fun y hy=>?_
  obtain⟨j,hj,e⟩:=Q0 (d:=0) hy;rw[←e];exact g2 j hj
 have one:∀{x:AC},x.length≤200→(∀j,j<x.length→-9223372036854775808≤x.getD j 0∧x.getD j 0<9223372036854775808)→fL k x:=fun h1 h2=>few h1 fun y hy=>by
  obtain⟨j,hj,e⟩:=Q0 (d:=0) hy;rw[←e];exact h2 j hj
 intro x hx;simp only[wF,List.mem_append,List.mem_singleton,List.mem_map] at hx;rcases hx with((((((((rfl|⟨a,ha,rfl⟩)|hx)|rfl)|hx)|rfl)|hx)|⟨p,hp,rfl⟩)|rfl)
 ·refine few (by simp) fun y hy=>?_
  simp only[List.mem_cons,List.not_mem_nil,or_false] at hy;have q0:s.st.1=s.t:=rfl;have q1:s.st.2.2.2.2.2.2.2.2.2.1=s.to:=rfl;have q2:s.st.2.1.length=s.B.1.length:=rfl;have q3:s.st.2.2.1.length=s.B.2.1.length:=rfl;have q4:s.st.2.2.2.1.length=s.B.2.2.1.length:=rfl;have q5:s.st.2.2.2.2.1.length=s.B.2.2.2.length:=rfl;have q6:s.st.2.2.2.2.2.2.1.length=s.ho.length:=rfl;have q7:s.st.2.2.2.2.2.2.2.1.length=s.m.length:=rfl;rcases hy with rfl|rfl|rfl|rfl|rfl|rfl|rfl|rfl|rfl
  ·omega
  ·omega
  ·cases s.st.2.2.2.2.2.2.2.2.2.2<;>decide
  all_goals omega
 ·obtain⟨i,bK,e⟩:=Q0 (d:=ad) ha;have:=pH.1 (hb.acct i bK);have e:s.B.1.getD i ad=a:=e;have:=(pH (a:=a)).1 (by rw[←e];exact hb.acct i bK);refine few (by simp[wJ]) fun y hy=>?_
  simp only[wJ,List.mem_cons,List.not_mem_nil,or_false] at hy;rcases hy with rfl|rfl|rfl<;>omega
 ·refine row (n:=s.B.1.length) hx b1 (fun i hi=>?_) fun i hi j hj=>?_
  ·have:=hb.br i hi;show(s.B.2.1.getD i []).length≤200;omega
  ·have hj:j<(s.B.2.1.getD i []).length:=hj;have g:=hb.bil i hi j (by have:=hb.br i hi;omega);unfold wX at g;simp only[bc,aX] at g;have g:cell s.B.2.1 i j≥-1∧cell s.B.2.1 i j≤2305843009213693952:=g;show-9223372036854775808≤cell s.B.2.1 i j∧cell s.B.2.1 i j<9223372036854775808;omega
 ·refine one (x:=s.B.2.2.1) (by omega) fun j hj=>?_
  have g:=hb.mul j (by omega);unfold wX at g;simp only[bc,aX] at g;omega
 ·refine row (n:=s.B.1.length) hx b2 (fun i hi=>?_) fun i hi j hj=>?_
  ·have:=hb.pr i hi;show(s.B.2.2.2.getD i []).length≤200;omega
  ·have hj:j<(s.B.2.2.2.getD i []).length:=hj;have g:=hb.net i hi j (by have:=hb.pr i hi;omega);unfold gZ at g;simp only[bc,aX] at g;have g:cell s.B.2.2.2 i j>-72057594037927936∧cell s.B.2.2.2 i j<72057594037927936:=g;show-9223372036854775808≤cell s.B.2.2.2 i j∧cell s.B.2.2.2 i j<9223372036854775808;omega
 ·refine one (x:=s.pr) (by rw[hL.pl];omega) fun j hj=>?_
  have:=hL.price j (by rw[←hL.pl];exact hj);omega
 ·refine row (n:=s.B.1.length) hx hol (fun i bK=>?_) fun i bK j hj=>?_
  ·have:=(hi.laid i bK).hl;show(s.ho.getD i []).length≤200;omega
  ·have hj:j<(s.ho.getD i []).length:=hj;have L:=hi.laid i bK;have:=L.hold j (by rw[←L.hl];exact hj);show-9223372036854775808≤(s.ho.getD i []).getD j 0∧(s.ho.getD i []).getD j 0<9223372036854775808;omega
 ·have m1:=hi.waits.may p hp;have m2:=hi.waits.time p hp;have m3:=hi.waits.were p hp;have m4:=hi.waits.pos _ m3;have m5:=h.ids _ m3;have f1:=m1.f0;have f2:=m1.f1;have f3:=m1.t0;have f4:=m1.t1;have f5:=m1.a1;have f6:=m1.a2;have f7:=m1.c1;have f8:=m1.c3;refine few (by simp[vL]) fun y hy=>?_
  simp only[vL,List.mem_cons,List.not_mem_nil,or_false] at hy;rcases hy with rfl|rfl|rfl|rfl|rfl|rfl|rfl<;>omega
 ·exact few (x:=s.ids) (by omega) fun y hy=>⟨by have:=hi.waits.pos y hy;omega,h.ids y hy⟩
inductive gf (k:Nat) (r:qG):zU→EQ→zU→Prop
 |nil (s:zU):gf k r s [] s
 |cons {s t u:zU} {b:AC} {rows:EQ} {c:la} {o:List qY} {e:Int} (h1:tg k b=some (c,0)) (h2:ig k r s.st c=some (t.st,o,e)) (g:gf k r t rows u):gf k r s (b::rows) u
 |skip {s u:zU} {b:AC} {rows:EQ} {c:la} {e:Int} (h1:tg k b=some (c,e)) (he:e≠0) (g:gf k r s rows u):gf k r s (b::rows) u
theorem gf.app {k:Nat}{r:qG}{s t u:zU}{a b:EQ}(g:gf k r s a t)(h:gf k r t b u):gf k r s (a++b) u:=by
 induction g with
 |nil s=>exact h
 |cons a b _ ih=>exact .cons a b (ih h)
 |skip a b _ ih=>exact .skip a b (ih h)
theorem gf.snocE {k:Nat}{r:qG}{s t u:zU}{b:AC}{rows:EQ}{c:la}{o:List qY}{e:Int}(g:gf k r s rows t)(h1:tg k b=some (c,0))(h2:ig k r t.st c=some (u.st,o,e)):gf k r s (rows++[b]) u:=g.app (.cons h1 h2 (.nil _))
theorem gf.snoc {k:Nat}{r:qG}{s t u:zU}{b:AC}{rows:EQ}{c:la}{o:List qY}(g:gf k r s rows t)(h1:tg k b=some (c,0))(h2:ig k r t.st c=some (u.st,o,0)):gf k r s (rows++[b]) u:=g.snocE h1 h2
theorem ZZ {k:Nat}{r:qG}{ev:Int}{th:Bool}{rows:EQ}{b0}{x y:AC}{L:fV}{u:zU}:∀(m n i:Nat) (s:zU),i+m=rows.length→m<n→rows.length≤1000000→gf k r s (rows.drop i) u→
  yq k n ev th rows (rows.length:Int) (i:Int) b0 x y r L s.st=some (ev,th,b0,x,y,r,L,u.st)
 |0,n,i,s,h1,h2,_,g=>by
  obtain⟨n,rfl⟩:∃m,n=m+1:=⟨n-1,by omega⟩;rw[List.drop_of_length_le (by omega)] at g;cases g;show yr k _ ev th rows (rows.length:Int) (i:Int) b0 x y r L u.st=_;unfold yr;rw[ab (by omega)];rfl
 |m+1,n,i,s,h1,h2,h3,g=>by
  obtain⟨n,rfl⟩:∃m,n=m+1:=⟨n-1,by omega⟩;have hi:i<rows.length:=by omega
  have ed:rows.drop i=rows.getD i []::rows.drop (i+1):=by rw[List.drop_eq_getElem_cons hi,bL,List.getElem?_eq_getElem hi];rfl
  rw[ed] at g;cases g with
  |@skip _ _ _ _ c e g1 he g3=>
   have ih:=ZZ (ev:=ev) (th:=th) (b0:=b0) (x:=x) (y:=y) (L:=L) m n (i+1) s (by omega) (by omega) h3 g3;show yr k (yq k n) ev th rows (rows.length:Int) (i:Int) b0 x y r L s.st=_;unfold yr;rw[aa (show(i:Int)<rows.length by omega),wV (by omega) (by omega),ao,g1];simp only[ag,ae];rw[ab he,qD hi (by omega)];exact ih
  |@cons _ t _ _ _ c o e g1 g2 g3=>
  have ih:=ZZ (ev:=ev) (th:=th) (b0:=b0) (x:=x) (y:=y) (L:=L) m n (i+1) t (by omega) (by omega) h3 g3;show yr k (yq k n) ev th rows (rows.length:Int) (i:Int) b0 x y r L s.st=_;unfold yr;rw[aa (show(i:Int)<rows.length by omega),wV (by omega) (by omega),ao,g1];simp only[ag,ae,decide_true];rw[g2];simp only[ae];rw[qD hi (by omega)];exact ih
theorem vWs {k:Nat}(hk:1000≤k){r:qG}(hr:vM r)(cW:nG k r=some true)(dr:qW r (jY r))(kI:ru k r=some (jY r).st){ev:Int}(aO:1≤ev∧ev≤1000)
  {D:vX} {m g:Int} {s0 s:zU} {rows:EQ} (h0:mB r s0) (hD:Has D m g (qA (wF s0.st)) rows) (hkp:gf k r s0 rows s):
  fB k r D ev=(mr k s.st).bind fun b=>(vk k (m,g,(rows.length:Int),true) D b).bind fun x=>bif !(decide (x.1=0)) then some (.inr (x.1,x.2.2)) else some (.inl (0,x.2.2,jA r s ev,x.2.1)):=by
 obtain⟨b0,F3,_,_⟩:=ZM hk hr dr;obtain⟨b1,_,fJ,qq⟩:=ZM hk hr h0.inv;obtain⟨l,el,l1,l2⟩:=ZL hr h0.inv;have Z0:=h0.inv.waits.idl;have hrn:=hD.main.rn;have hf:wY (wF s0.st):=by
  rw[el];refine⟨by rw[au];simp;omega,fun x hx=>?_⟩;rcases List.mem_append.1 hx with hx|hx
  ·have:=l2 x hx;omega
  ·rw[List.mem_singleton.1 hx];omega
 have kD:=vL8 hk hf (vDw hk hr h0) (by rw[fJ] at qq;omega);have his:=vG0 hk hr h0.inv;unfold fB;rw[cW];simp only[ae,aB,ak];rw[ab (show¬ev<1 by omega),ab (show¬ev>1000 by omega)];simp only[ak];rw[yS0 hk hD];simp only[ae];rw[kI];simp only[ae];rw[F3];simp only[ae];rw[ZT hk hD];simp only[ae,decide_true,aB,ak];rw[kD];simp only[ae,aB,ak];rw[his];simp only[ae,aB,ak];have ld:=ZZ (k:=k) (r:=r) (ev:=ev) (th:=true) (rows:=rows) (b0:=(D.1,D.2.2.1,D.2.2.2.2)) (x:=D.2.1) (y:=D.2.2.2.1) (L:=(m,g,(rows.length:Int),true)) rows.length k 0 s0 (by omega) (by omega) (by omega) (by simpa using hkp);refine(congrArg (fun z=>Option.bind z _) ld).trans ?_;rfl
def jQ (s:zU):AC:=qA (wF s.st)
theorem CC {k}(hk:1000≤k){r}(hr:vM r){s}(h:qW r s):mr k s.st=some (jQ s)∧(jQ s).length≤7000:=by
 obtain⟨b,h1,h2,h3⟩:=ZM hk hr h;subst h2;exact⟨h1,h3⟩
structure tn (k:Nat) (r:qG) (N:Nat) (s s0:zU) (rows:EQ) (g:Int):Prop where
 i0:mB r s0
 i:mB r s
 kept:gf k r s0 rows s
 gen:1≤g∧g≤2305843009213693953+(N:Int)
 rl:∀x∈rows,x.length≤57
 rn:rows.length≤N
def Old (b:AC)(g:Int):Prop:=Cut b∨∃g' S' iA,g'<g∧Cz b g' S' iA
def gM (k:Nat)(r:qG)(N:Nat)(s:zU)(D:vX):Prop:=
 pI D∧∃(m g:Int) (s0:zU) (rows:EQ) (t:AC),(m=0∨m=1)∧tn k r N s s0 rows g∧vB D m=jR ((yB g++jQ s0)::rows)++t∧Cut t∧Old (vB D (1-m)) g
structure gO (k:Nat) (r:qG) (N:Nat) (s:zU) (L:fV) (D:vX):Prop where
 clean:pI D
 up:lh D=false
 side:L.1=0∨L.1=1
 stale:L.2.2.2=false
 rows:0≤L.2.2.1∧L.2.2.1≤(N:Int)
 main:∃(s0:zU) (rows:EQ),tn k r N s s0 rows L.2.1∧vB D L.1=jR ((yB L.2.1++jQ s0)::rows)
 old:Old (vB D (1-L.1)) L.2.1
theorem tn.more {k r N M s s0 rows g}(h:tn k r N s s0 rows g)(hM:N≤M):tn k r M s s0 rows g:=
 ⟨h.i0,h.i,h.kept,by have:=h.gen;omega,h.rl,by have:=h.rn;omega⟩
theorem gO.more {k r N M s L D}(h:gO k r N s L D)(hM:N≤M):gO k r M s L D:=
 ⟨h.clean,h.up,h.side,h.stale,by have:=h.rows;omega,by obtain⟨s0,rows,a,b⟩:=h.main;exact⟨s0,rows,a.more hM,b⟩,h.old⟩
theorem gM.more {k r N M s D}(h:gM k r N s D)(hM:N≤M):gM k r M s D:=by
 obtain⟨a,m,g,s0,rows,t,b,c,d⟩:=h;exact⟨a,m,g,s0,rows,t,b,c.more hM,d⟩
theorem vKo {D}(h:pI D):(vB D 0).length≤200000∧(vB D 1).length≤200000:=by
 have h1:=h.lx;have h2:=h.ly;have h3:=h.room;exact⟨by show D.2.1.length≤_;omega,by show D.2.2.2.1.length≤_;omega⟩
theorem tn.holds {k}(hk:1000≤k){r}(hr:vM r){N}(hN:N≤900){s s0 rows g}(h:tn k r N s s0 rows g){b t}(hb:b=jR ((yB g++jQ s0)::rows)++t)(ht:Cut t):Cz b g (jQ s0) rows:=
 ⟨by grind,by have:=h.gen;omega,by have:=(CC hk hr h.i0.inv).2;omega,fun x hx=>by have:=h.rl x hx;omega,by have:=h.rn;omega⟩
theorem Z1 {k:Nat}(hk:1000≤k){r:qG}(hr:vM r){N:Nat}(hN:N≤890){s s0:zU}{rows:EQ}{m g:Int}{t:AC}{D:vX}(hc:pI D)(hm:m=0∨m=1)(ha:tn k r N s s0 rows g)(hb:vB D m=jR ((yB g++jQ s0)::rows)++t)(ht:Cut t)(ho:Old (vB D (1-m)) g)
  {e:Int} {D':vX} (h:Cy D (1-m) (wI (yB (g+1)++jQ s)) e D'):
  (e=10∧D'=D∧D.1<100000)∨(e=0∧jD D'=jD D∧D'.1=D.1∧gO k r (N+1) s (1-m,g+1,0,false) D')∨(e=11∧jD D=true∧D'.1=D.1∧lh D'=true∧gM k r (N+1) s D'):=by
 have mh:1-(1-m)=m:=by omega
 have CD:=ha.gen;have hlen:=(CC hk hr ha.i.inv).2;have new:tn k r (N+1) s s [] (g+1):=⟨ha.i,ha.i,.nil s,by omega,fun x hx=>absurd hx List.not_mem_nil,Nat.zero_le _⟩;have eR:wI (yB (g+1)++jQ s)=jR ((yB (g+1)++jQ s)::[]):=by simp[jR]
 have hold:Cz (vB D m) g (jQ s0) rows:=ha.holds hk hr (by omega) hb ht;cases h with
 |full hf=>exact .inl ⟨rfl,rfl,by rw[uz,au] at hf;have:(yB (g+1)).length=8:=rfl;omega⟩
 |ok w=>
  have w4:=w.oth;rw[mh] at w4;refine .inr (.inl ⟨rfl,w.ar,w.room,w.clean,w.dn,by show 1-m=0∨1-m=1;omega,rfl,⟨Int.le_refl _,by show(0:Int)≤_;omega⟩,⟨s,[],new,by show vB D' (1-m)=_;rw[w.it,eR]⟩,.inr ⟨g,jQ s0,rows,by show g<g+1;omega,?_⟩⟩);show Cz (vB D' (1-(1-m))) g (jQ s0) rows;rw[mh,w4];exact hold
 |none lj w=>
  have w4:=w.oth;rw[mh] at w4;refine .inr (.inr ⟨rfl,lj,w.room,w.dn,w.clean,m,g,s0,rows,t,hm,ha.more (by omega),by rw[w4];exact hb,ht,?_⟩);rw[w.it];exact ho
 |@torn _ j lj hj w=>
  have w4:=w.oth;rw[mh] at w4;refine .inr (.inr ⟨rfl,lj,w.room,w.dn,w.clean,?_⟩);have tS:=uz (yB (g+1)++jQ s);by_cases ql:j=(wI (yB (g+1)++jQ s)).length
  ·refine⟨1-m,g+1,s,[],[],by omega,new,by rw[w.it,ql,List.take_length,eR,List.append_nil],JV,.inr ⟨g,jQ s0,rows,by omega,?_⟩⟩;rw[mh,w4];exact hold
  ·refine⟨m,g,s0,rows,t,hm,ha.more (by omega),by rw[w4];exact hb,ht,.inl ?_⟩;rw[w.it];exact vFr (by rw[au];show 8+(jQ s).length≤60000;omega) (by omega)
theorem vWz {l}(h:∀x∈l,x.length≤57):(jR l).length≤59*l.length:=by
 induction l with
 |nil=>simp[jR]
 |cons x l ih=>
  have h1:=ih (by grind);have h2:=h x (by simp);have e:jR (x::l)=wI x++jR l:=by rfl
  rw[e,au,uz,List.length_cons];omega
theorem yEo {k:Nat}(hk:1000≤k){r:qG}(hr:vM r){N:Nat}(hN:N≤890){s u:zU}{L:fV}{D:vX}(h:gO k r N s L D){b:AC}(hb:b.length≤57){c:la}{o:List qY}(h1:tg k b=some (c,0))(h2:ig k r s.st c=some (u.st,o,0))(hu:mB r u)
  {e:Int} {L':fV} {D':vX} (ha:Mb L D (wI b) e L' D'):
  (e=10∧L'=L∧D'=D∧D.1<100000)∨(e=0∧jD D'=jD D∧D'.1=D.1∧gO k r (N+1) u L' D')∨(e=11∧jD D=true∧D'.1=D.1∧lh D'=true∧L'=L∧(gM k r (N+1) s D'∨gM k r (N+1) u D')):=by
 obtain⟨s0,rows,hm,hs⟩:=h.main;have aS:=h.rows;have new:tn k r (N+1) u s0 (rows++[b]) L.2.1:=⟨hm.i0,hu,hm.kept.snoc h1 h2,by have:=hm.gen;omega,fun x hx=>by
  rcases List.mem_append.1 hx with hx|hx
  ·exact hm.rl x hx
  ·rw[List.mem_singleton.1 hx];exact hb,by have:=hm.rn;rw[au];simp;omega⟩
 have eR:jR ((yB L.2.1++jQ s0)::rows)++wI b=jR ((yB L.2.1++jQ s0)::(rows++[b])):=by simp[jR]
 have qq:=uz b;cases ha with
 |full hf=>
  have h3:=vWz hm.rl;have h4:=(CC hk hr hm.i0.inv).2;have h5:=hm.rn;have e:jR ((yB L.2.1++jQ s0)::rows)=wI (yB L.2.1++jQ s0)++jR rows:=by simp[jR]
  have h6:(yB L.2.1).length=8:=rfl;have h7:=uz (yB L.2.1++jQ s0);rw[au] at h7;rw[hs,e,au] at hf;exact .inl ⟨rfl,rfl,rfl,by omega⟩
 |ok w=>
  have Z2:zA (L.2.2.1+1)=L.2.2.1+1:=zO (by omega) (by omega);refine .inr (.inl ⟨rfl,w.ar,w.room,w.clean,w.dn,h.side,h.stale,?_,⟨s0,rows++[b],new,?_⟩,?_⟩)
  ·show 0≤zA (L.2.2.1+1)∧zA (L.2.2.1+1)≤_;rw[Z2];omega
  ·show vB D' L.1=_;rw[w.it,hs,eR]
  ·show Old (vB D' (1-L.1)) L.2.1;rw[w.oth];exact h.old
 |@torn _ j lj hj w=>
  refine .inr (.inr ⟨rfl,lj,w.room,w.dn,rfl,?_⟩);have old:Old (vB D' (1-L.1)) L.2.1:=by rw[w.oth];exact h.old
  by_cases ql:j=(wI b).length
  ·right;exact⟨w.clean,L.1,L.2.1,s0,rows++[b],[],h.side,new,by rw[w.it,hs,ql,List.take_length,eR,List.append_nil],JV,old⟩
  ·left;exact⟨w.clean,L.1,L.2.1,s0,rows,(wI b).take j,h.side,hm.more (by omega),by rw[w.it,hs],vFr (by omega) (by omega),old⟩
theorem vSs {k:Nat}(hk:1000≤k){r:qG}(hr:vM r){ev:Int}{N:Nat}(hN:N≤880){s u:zU}{L:fV}{D:vX}(h:gO k r N s L D){b:AC}(hb:b.length≤57){c:la}{o:List qY}(h1:tg k b=some (c,0))(h2:ig k r s.st c=some (u.st,o,0))(hu:mB r u):
  ∃e L' D',Q1 k (jA r s ev) L D b=some (e,jA r s ev,L',D')∧D'.1=D.1∧
   ((e=10∧D.1<100000∧jD D'=jD D∧gO k r (N+3) s L' D')∨(e=0∧jD D'=jD D∧gO k r (N+3) u L' D')∨(e=11∧jD D=true∧lh D'=true∧(gM k r (N+3) s D'∨gM k r (N+3) u D'))):=by
 obtain⟨e1,L1,D1,a1,a2⟩:=vBv (k:=k) h.clean h.up h.side h.stale (b:=b) (by omega);unfold Q1;rw[a1,ae];dsimp only;rcases yEo hk hr (by omega) h hb h1 h2 hu a2 with⟨rfl,rfl,rfl,AR⟩|⟨rfl,q1,q2,q3⟩|⟨rfl,q1,q2,q3,rfl,q4⟩
 ·rw[aa rfl,aB,ak];obtain⟨s0,rows,hm,hs⟩:=h.main;have CD:=hm.gen;have xJ:=CC hk hr hm.i.inv;rw[show mr k (rz (jA r s ev))=some (jQ s) from xJ.1,ae];obtain⟨e2,D2,b1,b2⟩:=ZR (k:=k) (by omega) h.clean h.up h.side (by omega) (b:=jQ s) (by omega);rw[b1,ae];dsimp only;rcases Z1 hk hr (by omega) h.clean h.side hm (by rw[List.append_nil];exact hs) JV h.old b2 with⟨rfl,rfl,_⟩|⟨rfl,q1,q2,q3⟩|⟨rfl,q1,q2,q3,q4⟩
  ·rw[ab (by decide)];exact⟨10,_,_,rfl,rfl,.inl ⟨rfl,AR,rfl,h.more (by omega)⟩⟩
  ·rw[aa rfl,if_pos rfl];simp only[aB,ak];obtain⟨e3,L3,D3,c1,c2⟩:=vBv (k:=k) q3.clean q3.up q3.side q3.stale (b:=b) (by omega);rw[c1,ae];rcases yEo hk hr (by omega) q3 hb h1 h2 hu c2 with⟨rfl,rfl,rfl,_⟩|⟨rfl,p1,p2,p3⟩|⟨rfl,p1,p2,p3,rfl,p4⟩
   ·exact⟨10,_,_,rfl,q2,.inl ⟨rfl,AR,q1,q3.more (by omega)⟩⟩
   ·exact⟨0,_,_,rfl,p2.trans q2,.inr (.inl ⟨rfl,p1.trans q1,p3.more (by omega)⟩)⟩
   ·refine⟨11,_,_,rfl,p2.trans q2,.inr (.inr ⟨rfl,q1.symm.trans p1,p3,?_⟩)⟩;rcases p4 with p|p
    ·exact .inl (p.more (by omega))
    ·exact .inr (p.more (by omega))
  ·rw[ab (by decide)];exact⟨11,_,_,rfl,q2,.inr (.inr ⟨rfl,q1,q3,.inl (q4.more (by omega))⟩)⟩
 ·exact⟨0,L1,D1,rfl,q2,.inr (.inl ⟨rfl,q1,q3.more (by omega)⟩)⟩
 ·refine⟨11,_,D1,rfl,q2,.inr (.inr ⟨rfl,q1,q3,?_⟩)⟩;rcases q4 with p|p
  ·exact .inl (p.more (by omega))
  ·exact .inr (p.more (by omega))
def CE (r:qG)(s:zU)(ev:Int):xv:=(r.1,r.2.1,r.2.2.1,r.2.2.2.1,r.2.2.2.2,s.t,s.B.1,s.B.2.1,s.B.2.2.1,s.B.2.2.2,s.pr,s.ho,s.m,s.ids,s.to,s.ov,ev,true)
def Z3 (x:Int):Prop:= -9223372036854775808≤x∧x<9223372036854775808
def vA0 (k:Nat)(r:qG):Prop:=∀s,mB r s→∀c:la,lJ k c.2=some true→pt (vS c.2)→∃t o e,ig k r (zU.st s) c=some (zU.st t,o,e)∧mB r t∧(e≠0→t=s)
inductive HL (k:Nat) (r:qG) (ev:Int) (N:Nat) (s:zU) (L:fV) (D:vX) (a:Int) (m:zC×Int):List qE→xv→fV→vX→Prop
 |none {o:List qE} (ha:ZO k r s a m s o):HL k r ev N s L D a m o (jA r s ev) L D
 |disk {L':fV} {D':vX} (hf:D.1<100000) (hr:gO k r (N+4) s L' D') (lj:jD D'=jD D):HL k r ev N s L D a m [(a,16,10,0,0,0,0,0)] (jA r s ev) L' D'
 |done {t:zU} {o:List qE} {L':fV} {D':vX} (hm:m.2=0) (ha:ig k r s.st (a,m.1)=some (t.st,o,0)) (hr:gO k r (N+4) t L' D') (lj:jD D'=jD D):HL k r ev N s L D a m o (jA r t ev) L' D'
 |lost {t:zU} {o:List qE} {L':fV} {D':vX} (hm:m.2=0) (ha:ig k r s.st (a,m.1)=some (t.st,o,0)) (lj:jD D=true) (hd:lh D'=true) (hs:gM k r (N+4) s D'∨gM k r (N+4) t D'):HL k r ev N s L D a m [] (CE r s ev) L' D'
 |late {t:zU} {o:List qE} {L':fV} {D':vX} (hm:m.2=0) (ha:ig k r s.st (a,m.1)=some (t.st,o,0)) (lj:jD D=true) (hd:lh D'=true) (hs:gM k r (N+4) t D'):HL k r ev N s L D a m o (CE r t ev) L' D'
theorem Z4 {k:Nat}(hk:1000≤k){r:qG}(hr:vM r)(hd:vA0 k r)(hq:∀s c u o e,ig k r (zU.st s) c=some (u,o,e)→c.2.1=9→u=s.st){ev:Int}{N:Nat}(hN:N≤870){s:zU}{L:fV}{D:vX}(h:gO k r N s L D)
  {a:Int} (haw:Z3 a) {b:AC} (hb:b.length≤8*k) (bF:b.length≤140737488355328):
  ∃o G' L' D',Mn k (jA r s ev) L D a b=some (o,G',L',D')∧D'.1=D.1∧HL k r ev N s L D a (kT b) o G' L' D':=by
 have hm:uy k b=some (kT b):=yJv (by omega) hb bF;have yt:=fun h=>YB (k:=k) (by omega) (b:=b) h
 generalize kT b=m at hm yt;have hi:mB r s:=by obtain⟨s0,rows,hM,_⟩:=h.main;exact hM.i
 unfold Mn;rw[show lk k (jA r s ev) L D=some (false,jA r s ev,L,D) from rfl];simp only[ae,ak];rw[hm];simp only[ae];by_cases h0:m.2=0
 case neg=>
  rw[ab h0];exact⟨_,_,L,D,rfl,rfl,.none (.inl ⟨h0,rfl,rfl⟩)⟩
 obtain⟨f1,f2⟩:=yt h0;rw[aa h0];simp only[aB,ak];obtain⟨t,o,e,h1,h2,h3⟩:=hd s hi (a,m.1) f1 f2;have e1:yR (jA r s ev)=r:=rfl;have e2:rz (jA r s ev)=s.st:=rfl;rw[e1,e2,h1];simp only[ae];by_cases he:e=0
 case neg=>
  rw[ab he];exact⟨_,_,L,D,rfl,rfl,.none (.inr ⟨h0,_,_,_,h1,.inl ⟨he,rfl,rfl⟩⟩)⟩
 subst he;rw[show decide ((0:Int)=0)=true from rfl];simp only[aB,ak];by_cases h9:m.1.1=9
 ·rw[aa h9];have eq:=hq _ _ _ _ _ h1 h9;exact⟨o,_,L,D,rfl,rfl,.none (.inr ⟨h0,_,_,_,h1,.inr ⟨rfl,eq,rfl⟩⟩)⟩
 rw[ab h9];simp only[ak];obtain⟨c,oe,cQ,dL⟩:=Yz hk (w:=a) f1 haw f2;rw[oe];simp only[ae];obtain⟨e',L1,D1,k1,k2,k3⟩:=vSs hk hr (ev:=ev) (by omega) h dL cQ h1 h2;rw[k1];simp only[ae];rcases k3 with⟨rfl,qf,q1,q2⟩|⟨rfl,q1,q2⟩|⟨rfl,q1,q2,q3⟩
 ·rw[show decide ((10:Int)=0)=false from rfl,show decide ((10:Int)=10)=true from rfl];exact⟨_,_,L1,D1,rfl,k2,.disk qf (q2.more (by omega)) q1⟩
 ·simp only[decide_true,ag];show∃o G' L' D',(Q2 k L1 D1).bind _=_∧_;rw[show Q2 k L1 D1=some (L1.2.2.1,L1,D1) from rfl];simp only[ae];cases decide (L1.2.2.1≥(jA r s ev).2.2.2.2.2.2.2.2.2.2.2.2.2.2.2.2.1) with
  |false=>exact⟨o,jA r t ev,L1,D1,rfl,k2,.done h0 h1 (q2.more (by omega)) q1⟩
  |true=>
   obtain⟨s0,rows,hM,hs⟩:=q2.main;have CD:=hM.gen;have xJ:=CC hk hr h2.inv;simp only[ag];rw[xJ.1];simp only[ae];obtain⟨e3,D2,b1,b2⟩:=ZR (k:=k) (by omega) q2.clean q2.up q2.side (by omega) (b:=jQ t) (by omega);rw[b1];simp only[ae];rcases Z1 hk hr (by omega) q2.clean q2.side hM (by rw[List.append_nil];exact hs) JV q2.old b2 with⟨rfl,rfl,pf⟩|⟨rfl,p1,p2,p3⟩|⟨rfl,p1,p2,p3,p4⟩
   ·exact⟨o,jA r t ev,L1,_,rfl,k2,.done h0 h1 (q2.more (by omega)) q1⟩
   ·exact⟨o,jA r t ev,_,D2,rfl,p2.trans k2,.done h0 h1 (p3.more (by omega)) (p1.trans q1)⟩
   ·exact⟨o,CE r t ev,_,D2,rfl,p2.trans k2,.late h0 h1 (q1.symm.trans p1) p3 (p4.more (by omega))⟩
 ·rw[show decide ((11:Int)=0)=false from rfl,show decide ((11:Int)=10)=false from rfl];exact ⟨[], CE r s ev, L1, D1, rfl, k2, .lost h0 h1 q1 q2 (by
   rcases q3 with p|p
   ·exact .inl (p.more (by omega))
   ·exact .inr (p.more (by omega)))⟩
inductive Q3 (k:Nat) (r:qG) (ev:Int) (N:Nat) (s:zU) (D:vX):((Int×vX×xv×fV)⊕(Int×vX))→Prop
 |up {L':fV} {D':vX} (hr:gO k r (N+1) s L' D') (lj:jD D'=jD D) (aP:D'.1=D.1):Q3 k r ev N s D (.inl (0,D',jA r s ev,L'))
 |disk (hf:D.1<100000):Q3 k r ev N s D (.inr (10,D))
 |lost {D':vX} (lj:jD D=true) (hd:lh D'=true) (hs:gM k r (N+1) s D') (aP:D'.1=D.1):Q3 k r ev N s D (.inr (11,D'))
theorem vZu {k:Nat}(hk:1000≤k){r:qG}(hr:vM r)(cW:nG k r=some true)(dr:qW r (jY r))(kI:ru k r=some (jY r).st){ev:Int}(aO:1≤ev∧ev≤1000){N:Nat}(hN:N≤880){s:zU}{D:vX}(hu:lh D=false)(h:gM k r N s D):
  ∃x,fB k r D ev=some x∧Q3 k r ev N s D x:=by
 obtain⟨hc,m,g,s0,rows,t,hm,ha,hb,ht,ho⟩:=h;have hl:=vKo hc;have hh:Has D m g (qA (wF s0.st)) rows:=⟨hm,ha.holds hk hr (by omega) hb ht,ho,by omega,by omega⟩;have CD:=ha.gen;have xJ:=CC hk hr ha.i.inv;rw[vWs hk hr cW dr kI aO ha.i0 hh ha.kept,xJ.1,ae];obtain⟨e,D',b1,b2⟩:=ZR (k:=k) (by omega) hc hu (L:=(m,g,(rows.length:Int),true)) hm (by show 1≤g∧g<_;omega) (b:=jQ s) (by omega);rw[b1,ae];dsimp only;rcases Z1 hk hr (by omega) hc hm ha hb ht ho b2 with⟨rfl,rfl,pf⟩|⟨rfl,p1,p2,p3⟩|⟨rfl,p1,p2,p3,p4⟩
 ·rw[ab (by decide)];exact⟨_,rfl,.disk pf⟩
 ·rw[aa rfl];exact⟨_,rfl,.up p3 p1 p2⟩
 ·rw[ab (by decide)];exact⟨_,rfl,.lost p1 p3 p4 p2⟩
end Go.Ab.Gi
namespace Go.Ab.Gi
open Go.Ab Go.RowKit
def Q4:vX:=(200000,[],0,[],0,0,0,false,false,0)
def jb (k:Nat)(r:qG):vX:=match fB k r Q4 1 with
 |some (.inl x)=>x.2.1
 |_=>Q4
structure vZ4 (k:Nat) (r:qG):Prop where
 new:Q5 k 200000=some Q4
 is:∀ev,1≤ev→ev≤1000→fB k r Q4 ev=some (.inl (0,jb k r,jA r (jY r) ev,(0,1,0,false)))
 calm:(!(jb k r).2.2.2.2.2.2.2.1&& !(jb k r).2.2.2.2.2.2.2.2.1&&decide ((jb k r).1=200000)&&decide ((jb k r).2.1.length≤20000)&&decide ((jb k r).2.2.2.1.length≤20000))=true
inductive PS (k:Nat) (r:qG) (ev:Int) (N:Nat):zU→xv→fV→vX→Bool→Prop
 |up {s:zU} {L:fV} {D:vX} (h:gO k r N s L D):PS k r ev N s (jA r s ev) L D true
 |down {s s':zU} {L:fV} {D:vX} (hd:lh D=true) (h:gM k r N s D):PS k r ev N s (CE r s' ev) L D false
theorem PS.more {k:Nat}{r:qG}{ev:Int}{N M:Nat}{s:zU}{G:xv}{L:fV}{D:vX}{u:Bool}(h:PS k r ev N s G L D u)(hM:N≤M):PS k r ev M s G L D u:=by
 cases h with
 |up h=>exact .up (h.more hM)
 |down hd h=>exact .down hd (h.more hM)
theorem gM.deck {k:Nat}{r:qG}{N:Nat}{s:zU}{D D':vX}(h:gM k r N s D)(hc:pI D')(h0:D'.2.1=D.2.1)(h1:D'.2.2.2.1=D.2.2.2.1):gM k r N s D':=by
 obtain⟨_,m,g,s0,rows,t,hm,ha,hb,ht,ho⟩:=h;have e:∀i,vB D' i=vB D i:=fun i=>by unfold vB;rw[h0,h1]
 exact⟨hc,m,g,s0,rows,t,hm,ha,by rw[e];exact hb,ht,by rw[e];exact ho⟩
theorem vT1 {k:Nat}{D:vX}(h:pI D):nH k D=some (D.1,D.2.1,D.2.2.1,D.2.2.2.1,D.2.2.2.2.1,D.2.2.2.2.2.1,D.2.2.2.2.2.2.1,false,false,0):=by
 unfold nH;have h1:=h.x;have h2:=h.y;rw[h1,h2,aa (show(0:Int)≤(D.2.1.length:Int) by omega),aa (show(D.2.1.length:Int)≤(D.2.1.length:Int) by omega),aa (show(0:Int)≤(D.2.2.2.1.length:Int) by omega),aa (show(D.2.2.2.1.length:Int)≤(D.2.2.2.1.length:Int) by omega)];simp only[Bool.and_self,ag,ao,Nat.sub_zero,List.take_length]
structure yPw (k:Nat) (a:oL):Prop where
 who:Z3 a.2.1
 len:a.2.2.1.length≤8*k∧a.2.2.1.length≤140737488355328
 keep:a.2.2.2.2<9223372036854775808
theorem vQp {k:Nat}(hk:1000≤k){r:qG}(hr:vM r)(cW:nG k r=some true)(dr:qW r (jY r))(kI:ru k r=some (jY r).st){ev:Int}(aO:1≤ev∧ev≤1000){N:Nat}(hN:N≤880){s:zU}{D:vX}(hu:lh D=false)(lj:jD D=false)(h:gM k r N s D):
  (∃D' L',fB k r D ev=some (.inl (0,D',jA r s ev,L'))∧gO k r (N+1) s L' D'∧jD D'=false∧D'.1=D.1)∨(fB k r D ev=some (.inr (10,D))∧D.1<100000):=by
 obtain⟨x,p1,p2⟩:=vZu hk hr cW dr kI aO hN hu h;cases p2 with
 |up q1 q2 q3=>exact .inl ⟨_,_,p1,q1,q2.trans lj,q3⟩
 |disk hf=>exact .inr ⟨p1,hf⟩
 |lost q1=>rw[lj] at q1;cases q1
theorem Z5 n (i:Nat)(hi:i≤7):IntKind.wrap .u8 (shr .u64 (IntKind.wrap .u64 n) (IntKind.wrap .u64 (8*(i:Int))))=vH n i:=by
 rw[yZw n i hi];have e:∀x:Int,∀j:Nat,j≤56→shr .u64 x (j:Int)=x/2^j:=fun x j hj=>by
  unfold shr;rw[ao,Nat.min_eq_left (show j≤IntKind.bits .u64 from Nat.le_trans hj (by decide)),Int.fdiv_eq_ediv_of_nonneg _ (by grind)]
 have w:IntKind.wrap .u64 (8*(i:Int))=((8*i:Nat):Int):=by
  rw[EA];omega
 rw[w,e _ _ (by omega),EA,OI];have:i=0∨i=1∨i=2∨i=3∨i=4∨i=5∨i=6∨i=7:=by omega
 rcases this with rfl|rfl|rfl|rfl|rfl|rfl|rfl|rfl<;>(omega)<;>omega
theorem vXg {k l}(j:Nat)(hj:j<l.length)(hl:l.length≤1000000):∀c n,c<n→c≤8→∀r:AC,r.length+c≤100000000→Mo k n l (j:Int) (8*(c:Int)-8) r=some (l,(j:Int),r++(yB (l.getD j 0)).drop (8-c)):=by
 intro c
 induction c with
 |zero=>
  intro n h1 _ r hr;obtain⟨n,rfl⟩:∃m,n=m+1:=⟨n-1,by omega⟩;rw[show(yB (l.getD j 0)).drop (8-0)=[] from rfl,List.append_nil];rfl
 |succ c ih=>
  intro n h1 h2 r hr;obtain⟨n,rfl⟩:∃m,n=m+1:=⟨n-1,by omega⟩;have g:=ih n (by omega) (by omega) (r++[vH (l.getD j 0) c]) (by grind);show Q6 k (Mo k n) l _ _ r=_;unfold Q6;have e8:8*((c+1:Nat):Int)-8=8*(c:Int):=by omega
  have w:IntKind.wrap .u64 (8*(c:Int))=8*(c:Int):=by rw[EA];omega
  rw[e8,aa (by omega),ag,wV (by omega) (by omega),ag];rw[show decide (IntKind.wrap .u64 (8*(c:Int))<0)=false from by grind,bG,ag,qI (by omega) (by omega),ag,ao];rw[Z5 _ _ (by omega),show zA (8*(c:Int)-8)=8*(c:Int)-8 by rw[zO (by omega) (by omega)],g,List.append_assoc];have:c=0∨c=1∨c=2∨c=3∨c=4∨c=5∨c=6∨c=7:=by omega
  rcases this with rfl|rfl|rfl|rfl|rfl|rfl|rfl|rfl<;>rfl
theorem yL4 {k}(hk:9≤k){l}(hl:l.length≤1000000)(pU:l.length<k):HM k l=some (yN l):=by
 have all:∀(c n j:Nat),j+c=l.length→c<n→CF k n l (j:Int) (yN (l.take j))=some (yN l):=by
  intro c
  induction c with
  |zero=>
   intro n j h1 h2;obtain⟨n,rfl⟩:∃m,n=m+1:=⟨n-1,by omega⟩;show HN k (CF k n) l _ _=_;unfold HN;rw[ab (by omega),List.take_of_length_le (by omega)];rfl
  |succ c ih=>
   intro n j h1 h2;obtain⟨n,rfl⟩:∃m,n=m+1:=⟨n-1,by omega⟩;have hj:j<l.length:=by omega
   have g:=ih n (j+1) (by omega) (by omega);have hlen:(yN (l.take j)).length=8*j:=by rw[iU,bQ];omega
   have g1:=vXg (k:=k) j hj hl 8 k (by omega) (by omega) (yN (l.take j)) (by omega);rw[show(8*((8:Nat):Int)-8)=56 from rfl] at g1;show HN k (CF k n) l _ _=_;unfold HN;rw[aa (by omega),ag,g1,ae];rw[qD hj (by omega)];have e:yN (l.take (j+1))=yN (l.take j)++(yB (l.getD j 0)).drop (8-8):=by
    rw[←fi l j 0 hj];simp[yN]
   rw[e] at g;exact g
 unfold HM;have:=all l.length k 0 (by omega) (by omega);have this:CF k k l 0 []=some (yN l):=this;rw[this];rfl
theorem CG {k}(hk:9≤k){l}(hl:l.length≤1000000)(pU:l.length<k):ko k l=some (qV l):=by
 unfold ko;rw[yL4 hk (by simp) (by grind),ae,yL4 hk hl pU,ae,qI (by simp[iU];omega) (by simp[iU];omega),ag];rfl
theorem Z6 {k}(hk:1000≤k){l}(h:wY l):pJ k l=some (qA l):=by
 have hn:=h.n;unfold pJ;obtain ⟨s, h1, h2⟩ := yX (L := fun n i (s : AC) => HO k n l i s) (N := l.length) (fun s => s) (fun i s => s = qA (l.take i)) (fun n s _=>by
  show HP k (HO k n) l _ s=_;unfold HP;simp) (fun n i s hi hs=>by
  refine⟨s++qV (l.getD i []),?_,by rw[hs,vGb hi]⟩;show HP k (HO k n) l (i:Int) s=_;unfold HP;have hr:=h.r _ (fg (d:=[]) hi);have ub:s.length≤8000*1000:=by
   have:=JT (l:=l.take i) fun x hx=>h.r x (by grind)
   grind
  rw[aa (by omega),ag,wV (by omega) (by omega),ag,ao,CG (by omega) (by omega) (by omega),ae,
   qI (by rw[fj];omega) (by rw[fj];omega),ag,qD (N:=l.length) hi (by omega)]) (n:=k) (s:=[]) (by omega) rfl
 simp_all
theorem Mp a b:qA (a++b)=qA a++qA b:=by simp[qA]
theorem Z7 {k}(hk:1000≤k){s:Ey}{b1:List (Int×Int×Int)×EQ×AC×EQ}(hl:b1.1.length≤900) r (hr:r.length≤100000000):vl k k 0 s b1 r=some (s,b1,r++qA (b1.1.map wJ)):=by
 obtain ⟨t, h1, h2⟩ := yX (L := fun n i (t : AC) => vl k n i s b1 t) (N := b1.1.length) (fun t => (s, b1, t)) (fun i t => t = r ++ qA ((b1.1.take i).map wJ)) (fun n t _=>by
  show HQ k (vl k n) _ s b1 t=_;unfold HQ;simp) (fun n i t hi ht=>by
  refine⟨t++qV (wJ (b1.1.getD i (0,0,0))),?_,by rw[ht,List.append_assoc,←OJ wJ (0,0,0) hi,Mp];rfl⟩;show HQ k (vl k n) (i:Int) s b1 t=_;unfold HQ;have hlen:t.length≤100000000+8000*900:=by
   have:=JT (l:=(b1.1.take i).map wJ) fun x hx=>by
    obtain⟨y,_,rfl⟩:=List.mem_map.1 hx;show 3≤900
    decide
   grind
  rw[aa (by omega),ag,wV (by omega) (by omega),ag,ag,ag];have aS:=CG (k:=k) (by omega) (l:=wJ (b1.1.getD i (0,0,0))) (by show 3≤1000000;decide) (by show 3<k;omega);refine(congrArg (fun z=>Option.bind z _) aS).trans ?_;have h32:(qV (wJ (b1.1.getD i (0,0,0)))).length=32:=rfl;simp only[ae];rw[qI (by omega) (by omega),ag,qD (N:=b1.1.length) hi (by omega)]) (n:=k) (s:=r) (by omega) (by simp[qA])
 simp_all
theorem vL0 {k}(hk:1000≤k){s:Ey}(hl:s.2.2.2.2.2.2.2.1.length≤900) r (hr:r.length≤100000000):vm k k 0 s r=some (s,r++qA (s.2.2.2.2.2.2.2.1.map vL)):=by
 obtain ⟨t, h1, h2⟩ := yX (L := fun n i (t : AC) => vm k n i s t) (N := s.2.2.2.2.2.2.2.1.length) (fun t => (s, t)) (fun i t => t = r ++ qA ((s.2.2.2.2.2.2.2.1.take i).map vL)) (fun n t _=>by
  show HR k (vm k n) _ s t=_;unfold HR;simp) (fun n i t hi ht=>by
  refine⟨t++qV (vL (s.2.2.2.2.2.2.2.1.getD i (0,0,0,0,0,0,0))),?_,by rw[ht,List.append_assoc,←OJ vL (0,0,0,0,0,0,0) hi,Mp];rfl⟩;show HR k (vm k n) (i:Int) s t=_;unfold HR;have hlen:t.length≤100000000+8000*900:=by
   have:=JT (l:=(s.2.2.2.2.2.2.2.1.take i).map vL) fun x hx=>by
    obtain⟨y,_,rfl⟩:=List.mem_map.1 hx;show 7≤900
    decide
   grind
  rw[aa (by omega),ag,wV (by omega) (by omega),ag];have aS:=CG (k:=k) (by omega) (l:=vL (s.2.2.2.2.2.2.2.1.getD i (0,0,0,0,0,0,0))) (by show 7≤1000000;decide) (by show 7<k;omega);refine(congrArg (fun z=>Option.bind z _) aS).trans ?_;have bV:(qV (vL (s.2.2.2.2.2.2.2.1.getD i (0,0,0,0,0,0,0)))).length=64:=rfl;simp only[ae];rw[qI (by omega) (by omega),ag,qD (N:=s.2.2.2.2.2.2.2.1.length) hi (by omega)]) (n:=k) (s:=r) (by omega) (by simp[qA])
 simp_all
theorem yLg {k}(hk:1000≤k){s}(h:wY (wF s)):HS k s=some (qA (wF s)):=by
  have hn:=h.n;have DV:=h.n;have hr:=h.r;have bj:=JT hr;have eq:=ZW s;obtain⟨S,hS⟩:∃S,qA (wF s)=S:=⟨_,rfl⟩;rw[hS] at eq bj⊢;obtain⟨t,ac,bi,mu,po,pr,ho,pa,ids,to,ov⟩:=s;have aZ : ∀ x, (x ∈ bi ∨ x = mu ∨ x ∈ po ∨ x = pr ∨ x ∈ ho ∨ x = ids) → x.length ≤ 900 := fun x hx => hr x (by
    simp only[wF,List.mem_append,List.mem_singleton];rcases hx with h|h|h|h|h|h<;>simp[h])
  simp only[wF,au,List.length_cons,List.length_nil,List.length_map] at hn;dsimp only at eq;have l1:=congrArg List.length eq;simp only[au] at l1;have fb:wY bi:=⟨by omega,fun x hx=>aZ x (.inl hx)⟩;have fp:wY po:=⟨by omega,fun x hx=>aZ x (.inr (.inr (.inl hx)))⟩;have fh:wY ho:=⟨by omega,fun x hx=>aZ x (.inr (.inr (.inr (.inr (.inl hx)))))⟩;have hmu:=aZ mu (.inr (.inl rfl));have pw:=aZ pr (.inr (.inr (.inr (.inl rfl))));have kJ:=aZ ids (.inr (.inr (.inr (.inr (.inr rfl)))));have go : ∀ (o : Int), ((ko k [t,to,o,(ac.length:Int),(bi.length:Int),(mu.length:Int),(po.length:Int),(ho.length:Int),(pa.length:Int)]).bind fun x0=>
      (vl k k 0 (t,ac,bi,mu,po,pr,ho,pa,ids,to,ov) (ac,bi,mu,po) x0).bind fun z=>
      (pJ k z.2.1.2.1).bind fun x2=>
      bif zL (z.2.2.length + x2.length) 1 then ((ko k z.2.1.2.2.1).bind fun x3=>
       bif zL ((z.2.2 ++ x2).length + x3.length) 1 then ((pJ k z.2.1.2.2.2).bind fun x4=>
        bif zL (((z.2.2 ++ x2) ++ x3).length + x4.length) 1 then ((ko k z.1.2.2.2.2.2.1).bind fun x5=>
         bif zL ((((z.2.2 ++ x2) ++ x3) ++ x4).length + x5.length) 1 then ((pJ k z.1.2.2.2.2.2.2.1).bind fun x6=>
          bif zL (((((z.2.2 ++ x2) ++ x3) ++ x4) ++ x5).length + x6.length) 1 then ((vm k k 0 z.1 (((((z.2.2++x2)++x3)++x4)++x5)++x6)).bind fun z1=>
           (ko k z1.1.2.2.2.2.2.2.2.2.1).bind fun x8=>
           bif zL (z1.2.length+x8.length) 1 then some (z1.2++x8)
           else none)
          else none)
         else none)
        else none)
       else none)
      else none)=some (qV [t,to,o,(ac.length:Int),(bi.length:Int),(mu.length:Int),(po.length:Int),(ho.length:Int),(pa.length:Int)]++(qA (ac.map wJ)++(qA bi++(qV mu++(qA po++(qV pr++(qA ho++(qA (pa.map vL)++(qV ids++[]))))))))):=fun o=>by
    have h9:(qV [t,to,o,(ac.length:Int),(bi.length:Int),(mu.length:Int),(po.length:Int),(ho.length:Int),(pa.length:Int)]).length=80:=rfl;have h9':(qV [t,to,bif ov then 1 else 0,(ac.length:Int),(bi.length:Int),(mu.length:Int),(po.length:Int),(ho.length:Int),(pa.length:Int)]).length=80:=rfl;rw[h9'] at l1;rw[CG (by omega) (by simp) (by simp;omega)];simp only[ae];rw[Z7 hk (by show ac.length≤900;omega) _ (by omega)];simp only[ae];rw[Z6 hk fb,ae,qI (by simp only[au];omega) (by simp only[au];omega),ag];rw[CG (by omega) (by omega) (by omega),ae,qI (by simp only[au];omega) (by simp only[au];omega),ag];rw[Z6 hk fp,ae,qI (by simp only[au];omega) (by simp only[au];omega),ag];rw[CG (by omega) (by omega) (by omega),ae,qI (by simp only[au];omega) (by simp only[au];omega),ag];rw[Z6 hk fh,ae,qI (by simp only[au];omega) (by simp only[au];omega),ag];rw[vL0 hk (by show pa.length≤900;omega) _ (by simp only[au];omega)];simp only[ae];rw[CG (by omega) (by omega) (by omega),ae,qI (by simp only[au];omega) (by simp only[au];omega),ag];simp only[List.append_assoc,List.append_nil]
  rw[eq];unfold HS;cases ov with
  |false=>exact go 0
  |true=>exact go 1
theorem Mq {k}(hk:9≤k){l}(h:fL k l){b}(hb:b.length≤1000000):yu k (qV l++b,true)=some (l,b,true):=by
 have hl:=h.n;have hm:=h.m;have hlen:(qV l++b).length=8*l.length+8+b.length:=by rw[au,fj];omega
 have hn:Q7 k (qV l++b)=some (l,b,true):=by
  unfold Q7;rw[ab (by omega),ak,aa (by omega),ag];have h8:(yB (l.length:Int)).length=8:=rfl;have t1:List.take 8 (qV l++b)=yB (l.length:Int):=by
   rfl
  rw[t1,yQz hk _ h8,yZp (by omega) (by omega),ae,ab (by omega),ak];have wd:zA (Int.tdiv (zA (((qV l++b).length:Int)-8)) 8)=((l.length+b.length/8:Nat):Int):=by
   rw[zO (x:=((qV l++b).length:Int)-8) (by omega) (by omega),hlen];have:((8*l.length+8+b.length:Nat):Int)-8=((8*l.length+b.length:Nat):Int):=by omega
   rw[this];have:Int.tdiv ((8*l.length+b.length:Nat):Int) 8=(((8*l.length+b.length)/8:Nat):Int):=rfl;rw[this,zO (by omega) (by omega)];omega
  rw[wd,ab (by omega),ak];have we:zA (8+zA (8*(l.length:Int)))=((8+8*l.length:Nat):Int):=by
   rw[zO (x:=8*(l.length:Int)) (by omega) (by omega),zO (by omega) (by omega)];omega
  rw[we,aa (by omega),aa (by omega),Bool.and_self,ag,ao];have s1:qR (qV l++b) 8 (8+8*l.length-8)=yN l:=by
   unfold qR qV;rw[List.append_assoc,List.drop_append_of_le_length (by omega),List.drop_of_length_le (by omega),List.nil_append,List.take_append_of_le_length (by rw[iU];omega),List.take_of_length_le (by rw[iU];omega)]
  have d1:List.drop (8+8*l.length) (qV l++b)=b:=by
   rw[List.drop_append_of_le_length (by grind),List.drop_of_length_le (by grind),List.nil_append]
  rw[s1,yKc hk (by rw[iU];omega) (by rw[iU];omega),Ww h.w,ae,d1];rfl
 unfold yu;rw[hn];rfl
theorem Z8 {k}(hk:9≤k){l}(h:fL k l){n}(hn:l.length=n){b}(hb:b.length≤1000000):HT k (qV l++b,true) (n:Int)=some (l,b,true):=by
 unfold HT;rw[Mq hk h hb];simp_all
theorem Z9 {k}(hk:9≤k){b l}(h:∀x∈l,fL k x)(hn:l.length<k)(hm:l.length≤1000000)(hb:(qA l++b).length≤1000000):HU k (qA l++b,true) (l.length:Int)=some (l,b,true):=by
 have all:∀(c n j:Nat),j+c=l.length→c<n→CH k n (l.length:Int) (j:Int) (qA (l.drop j)++b,true) (l.take j)=some ((b,true),l):=by
  intro c
  induction c with
  |zero=>
   intro n j h1 h2;obtain⟨n,rfl⟩:∃m,n=m+1:=⟨n-1,by omega⟩;show HV k (CH k n) _ _ _ _=_;unfold HV;rw[ab (by omega),List.take_of_length_le (by omega),List.drop_of_length_le (by omega)];rfl
  |succ c ih=>
   intro n j h1 h2;obtain⟨n,rfl⟩:∃m,n=m+1:=⟨n-1,by omega⟩;have hj:j<l.length:=by omega
   have g:=ih n (j+1) (by omega) (by omega);have ed:l.drop j=l.getD j []::l.drop (j+1):=by rw[List.drop_eq_getElem_cons hj,bL,List.getElem?_eq_getElem hj];rfl
   have hle:(qA (l.drop (j+1))++b).length≤1000000:=by
    have e2:qA l=qA (l.take (j+1))++qA (l.drop (j+1)):=by rw[←Mp,List.take_append_drop]
    rw[e2] at hb;simp  at hb⊢;omega
   show HV k (CH k n) _ _ _ _=_;unfold HV;rw[aa (by omega),ed,CB];rw[Mq hk (h _ (fg hj)) hle];simp only[ae];rw[qI (by rw[bQ];omega) (by rw[bQ];omega),ag,qD hj (by omega),fi l j [] hj];exact g
 unfold HU;have:=all l.length k 0 (by omega) hn;have this:CH k k (l.length:Int) 0 (qA l++b,true) []=some ((b,true),l):=this;rw[this];rfl
theorem vRg {k}(hk:9≤k){b s0 r2}{b0 b3:Int×Int×Bool}(h8:r2.length=9){l:List (Int×Int×Int)}(h3:r2.getD 3 0=(l.length:Int))(h:∀x∈l,fL k (wJ x))(hn:l.length<k)(hm:l.length≤1000000)(hb:(qA (l.map wJ)++b).length≤1000000):
  CI k k s0 0 b0 (qA (l.map wJ)++b,true) r2 b3 []=some (s0,b0,(b,true),r2,b3,l):=by
 have all:∀(c n j:Nat),j+c=l.length→c<n→CI k n s0 (j:Int) b0 (qA ((l.drop j).map wJ)++b,true) r2 b3 (l.take j)=some (s0,b0,(b,true),r2,b3,l):=by
  intro c
  induction c with
  |zero=>
   intro n j h1 h2;obtain⟨n,rfl⟩:∃m,n=m+1:=⟨n-1,by omega⟩;show HW k (CI k n) _ _ _ _ _ _ _=_;unfold HW;rw[wV (by omega) (by omega),h3,ab (by omega),List.take_of_length_le (by omega),List.drop_of_length_le (by omega)];rfl
  |succ c ih=>
   intro n j h1 h2;obtain⟨n,rfl⟩:∃m,n=m+1:=⟨n-1,by omega⟩;have hj:j<l.length:=by omega
   have g:=ih n (j+1) (by omega) (by omega);have ed:l.drop j=l.getD j (0,0,0)::l.drop (j+1):=by rw[List.drop_eq_getElem_cons hj,bL,List.getElem?_eq_getElem hj];rfl
   have hle:(qA ((l.drop (j+1)).map wJ)++b).length≤1000000:=by
    have e2:qA (l.map wJ)=qA ((l.take (j+1)).map wJ)++qA ((l.drop (j+1)).map wJ):=by rw[←Mp,←List.map_append,List.take_append_drop]
    rw[e2] at hb;simp  at hb⊢;omega
   show HW k (CI k n) _ _ _ _ _ _ _=_;unfold HW;rw[wV (by omega) (by omega),h3,aa (by omega),ed,List.map_cons,CB];have nf:=Z8 hk (h _ (fg (d:=(0,0,0)) hj)) (n:=3) rfl hle;rw[show((3:Nat):Int)=3 from rfl] at nf;rw[nf];rw[qI (by rw[bQ];omega) (by rw[bQ];omega),qD hj (by omega)];rw[←fi l j (0,0,0) hj] at g;exact g
 exact all l.length k 0 (by omega) hn
theorem vR4 {k}(hk:9≤k){b s0 r2 r6 r8}{b0 b3:Int×Int×Bool}{r4:List (Int×Int×Int)}{r5 r7 r9}(h8:r2.length=9){l:List (Int×Int×Int×Int×Int×Int×Int)}(h3:r2.getD 8 0=(l.length:Int))(h:∀x∈l,fL k (vL x))(hn:l.length<k)(hm:l.length≤1000000)(hb:(qA (l.map vL)++b).length≤1000000):
  CJ k k s0 0 b0 (qA (l.map vL)++b,true) r2 b3 r4 r5 r6 r7 r8 r9 []=some (s0,b0,(b,true),b3,r4,r5,r6,r7,r8,r9,l):=by
 have all:∀(c n j:Nat),j+c=l.length→c<n→CJ k n s0 (j:Int) b0 (qA ((l.drop j).map vL)++b,true) r2 b3 r4 r5 r6 r7 r8 r9 (l.take j)=some (s0,b0,(b,true),b3,r4,r5,r6,r7,r8,r9,l):=by
  intro c
  induction c with
  |zero=>
   intro n j h1 h2;obtain⟨n,rfl⟩:∃m,n=m+1:=⟨n-1,by omega⟩;show HX k (CJ k n) _ _ _ _ _ _ _ _ _ _ _ _ _=_;unfold HX;rw[wV (by omega) (by omega),h3,ab (by omega),List.take_of_length_le (by omega),List.drop_of_length_le (by omega)];rfl
  |succ c ih=>
   intro n j h1 h2;obtain⟨n,rfl⟩:∃m,n=m+1:=⟨n-1,by omega⟩;have hj:j<l.length:=by omega
   have g:=ih n (j+1) (by omega) (by omega);have ed:l.drop j=l.getD j (0,0,0,0,0,0,0)::l.drop (j+1):=by rw[List.drop_eq_getElem_cons hj,bL,List.getElem?_eq_getElem hj];rfl
   have hle:(qA ((l.drop (j+1)).map vL)++b).length≤1000000:=by
    have e2:qA (l.map vL)=qA ((l.take (j+1)).map vL)++qA ((l.drop (j+1)).map vL):=by rw[←Mp,←List.map_append,List.take_append_drop]
    rw[e2] at hb;simp  at hb⊢;omega
   show HX k (CJ k n) _ _ _ _ _ _ _ _ _ _ _ _ _=_;unfold HX;rw[wV (by omega) (by omega),h3,aa (by omega),ed,List.map_cons,CB];have nf:=Z8 hk (h _ (fg (d:=(0,0,0,0,0,0,0)) hj)) (n:=7) rfl hle;rw[show((7:Nat):Int)=7 from rfl] at nf;rw[nf];rw[qI (by rw[bQ];omega) (by rw[bQ];omega),qD hj (by omega)];rw[←fi l j (0,0,0,0,0,0,0) hj] at g;exact g
 exact all l.length k 0 (by omega) hn
theorem aaa {k}(hk:1000≤k){s}(hf:wY (wF s))(hg:∀x∈wF s,fL k x)(hb:(qA (wF s)).length≤1000000):Mr k (qA (wF s))=some (s,true):=by
 have Mm:=yLg hk hf;have hn:=hf.n;have e:=ZW s;obtain⟨S,hS⟩:∃S,qA (wF s)=S:=⟨_,rfl⟩;rw[hS] at Mm hb e⊢;obtain⟨t,ac,bi,mu,po,pr,ho,pa,ids,to,ov⟩:=s;have aZ : ∀ x, (x = [t, to, bif ov then 1 else 0, (ac.length : Int), (bi.length : Int), (mu.length : Int), (po.length : Int), (ho.length : Int), (pa.length : Int)] ∨ x ∈ ac.map wJ ∨ x ∈ bi ∨ x = mu ∨ x ∈ po ∨ x = pr ∨ x ∈ ho ∨ x ∈ pa.map vL ∨ x = ids) → fL k x := fun x hx => hg x (by
  simp only[wF,List.mem_append,List.mem_singleton];rcases hx with h|h|h|h|h|h|h|h|h<;>simp[h])
 simp only[wF,au,List.length_cons,List.length_nil,List.length_map] at hn;dsimp only at e;have l1:=congrArg List.length e;simp only[au,fj] at l1;have k9:9≤k:=by omega
 unfold Mr;rw[e];have j9:=Z8 k9 (aZ _ (.inl rfl)) (n:=9) rfl (b:=qA (ac.map wJ)++(qA bi++(qV mu++(qA po++(qV pr++(qA ho++(qA (pa.map vL)++(qV ids++[])))))))) (by simp only[au,fj];omega);rw[show((9:Nat):Int)=9 from rfl] at j9;rw[j9,←e];simp only[ae];have a0:=vRg k9 (s0:=S) (r2:=[t,to,bif ov then 1 else 0,(ac.length:Int),(bi.length:Int),(mu.length:Int),(po.length:Int),(ho.length:Int),(pa.length:Int)]) (b0:=(0,0,false)) (b3:=(t,to,decide ((bif ov then(1:Int) else 0)=1))) (b:=qA bi++(qV mu++(qA po++(qV pr++(qA ho++(qA (pa.map vL)++(qV ids++[]))))))) rfl (l:=ac) rfl (fun x hx=>aZ _ (.inr (.inl (List.mem_map_of_mem hx)))) (by omega) (by omega) (by simp only[au,fj];omega);refine(congrArg (fun z=>Option.bind z _) a0).trans ?_;simp only[ae];have q1:=Z9 k9 (l:=bi) (fun x hx=>aZ _ (.inr (.inr (.inl hx)))) (by omega) (by omega) (b:=qV mu++(qA po++(qV pr++(qA ho++(qA (pa.map vL)++(qV ids++[])))))) (by simp only[au,fj];omega);refine(congrArg (fun z=>Option.bind z _) q1).trans ?_;simp only[ae];rw[Mq k9 (aZ mu (.inr (.inr (.inr (.inl rfl))))) (by simp only[au,fj];omega)];simp only[ae];have q2:=Z9 k9 (l:=po) (fun x hx=>aZ _ (.inr (.inr (.inr (.inr (.inl hx)))))) (by omega) (by omega) (b:=qV pr++(qA ho++(qA (pa.map vL)++(qV ids++[])))) (by simp only[au,fj];omega);refine(congrArg (fun z=>Option.bind z _) q2).trans ?_;simp only[ae];rw[Mq k9 (aZ pr (.inr (.inr (.inr (.inr (.inr (.inl rfl))))))) (by simp only[au,fj];omega)];simp only[ae];have q3:=Z9 k9 (l:=ho) (fun x hx=>aZ _ (.inr (.inr (.inr (.inr (.inr (.inr (.inl hx)))))))) (by omega) (by omega) (b:=qA (pa.map vL)++(qV ids++[])) (by simp only[au,fj];omega);refine(congrArg (fun z=>Option.bind z _) q3).trans ?_;simp only[ae];have p1:=vR4 k9 (s0:=S) (b0:=(0,0,false)) (b3:=(t,to,decide ((bif ov then(1:Int) else 0)=1))) (r2:=[t,to,bif ov then 1 else 0,(ac.length:Int),(bi.length:Int),(mu.length:Int),(po.length:Int),(ho.length:Int),(pa.length:Int)]) (r4:=ac) (r5:=bi) (r6:=mu) (r7:=po) (r8:=pr) (r9:=ho) (b:=qV ids++[]) rfl (l:=pa) rfl (fun x hx=>aZ _ (.inr (.inr (.inr (.inr (.inr (.inr (.inr (.inl (List.mem_map_of_mem hx)))))))))) (by omega) (by omega) (by simp only[au,fj];omega);refine(congrArg (fun z=>Option.bind z _) p1).trans ?_;simp only[ae];rw[Mq k9 (aZ ids (.inr (.inr (.inr (.inr (.inr (.inr (.inr (.inr rfl))))))))) (by simp)];simp only[ae,aB,ak];have ZX:decide ((bif ov then(1:Int) else 0)=1)=ov:=by cases ov<;>rfl
 rw[ZX];rw[show decide ((([]:AC).length:Int)>0)=false from rfl];simp only[ak];refine(congrArg (fun z=>Option.bind z _) Mm).trans ?_;simp only[ae];rw[show rU S S=true from by simp[rU]];rfl
theorem vOk {r}(hr:vM r){s}(h:qW r s)(t:zU):∃b,jN 1000 s.st t.st=some b:=by
  have hb:wN s.B.1 s.B.2.1 s.B.2.2.1 s.B.2.2.2:=h.bk;have gJ:=h.bk.n6;have me:=h.bk.n1;have hm:=h.waits.len;have hi:=h.waits.idl;have h3:=hr.n3;have hL:=h.laid 0 (by omega);have e1:=yLy (k:=1000) (by decide) hb.toSized t.B.1 t.B.2.1 t.B.2.2.1 t.B.2.2.2;have e2:oq 1000 s.pr t.pr=some (decide (s.pr=t.pr)):=EX (by rw[hL.pl];omega) (by rw[hL.pl];omega);have e3:uA 1000 s.ho t.ho=some (decide (s.ho=t.ho)):=by
    have hol:=h.hol;exact O1 (by omega) (by omega) (fun i hi=>by
      have:=(h.laid i (by omega)).hl;omega)
  have e4:Cx 1000 s.m t.m=some (decide (s.m=t.m)):=vEk (by omega) (by omega);have e5:oq 1000 s.ids t.ids=some (decide (s.ids=t.ids)):=EX (by omega) (by omega);have eU : jN 1000 s.st t.st = bif decide (s.t = t.t) then (bif decide (s.to = t.to) then (bif mR s.ov t.ov then ((E0 1000 s.B.1 s.B.2.1 s.B.2.2.1 s.B.2.2.2 t.B.1 t.B.2.1 t.B.2.2.1 t.B.2.2.2).bind fun x0=>
    bif x0 then ((oq 1000 s.pr t.pr).bind fun x1=>
     bif x1 then ((uA 1000 s.ho t.ho).bind fun x2=>
      bif x2 then ((Cx 1000 s.m t.m).bind fun x3=>
       bif x3 then ((oq 1000 s.ids t.ids).bind fun x4=>
        some x4)
       else some false)
      else some false)
     else some false)
    else some false)
   else some false)
  else some false)
 else some false:=rfl
  grind
theorem vNb {r:qG}(hr:vM r){s:zU}(h:mB r s):HS 1000 s.st=some (jQ s)∧Mr 1000 (jQ s)=some (s.st,true):=by
 obtain⟨l,el,l1,l2⟩:=ZL hr h.inv;have Z0:=h.inv.waits.idl;have hf:wY (wF s.st):=by
  rw[el];refine⟨by rw[au];simp;omega,fun x hx=>?_⟩;rcases List.mem_append.1 hx with hx|hx
  ·have:=l2 x hx;omega
  ·rw[List.mem_singleton.1 hx];omega
 have qq:=(CC (Nat.le_refl 1000) hr h.inv).2;exact⟨yLg (Nat.le_refl _) hf,aaa (Nat.le_refl _) hf (vDw (Nat.le_refl _) hr h) (by have:(qA (wF s.st)).length≤7000:=qq;omega)⟩
theorem vIl {r:qG}(w:tm r)(cW:nG 1000 r=some true){ev:Int}(aO:1≤ev∧ev≤1000){N:Nat}(hN:N≤870){s:zU}{D:vX}(h:gM 1000 r N s D)(od:D.1=200000):
  ∃D1 D2 L2,nH 1000 D=some D1∧fB 1000 r D1 ev=some (.inl (0,D2,jA r s ev,L2))∧gO 1000 r (N+1) s L2 D2∧jD D2=false∧D2.1=200000:=by
 have hD:=h.1;have h1:gM 1000 r N s (D.1,D.2.1,D.2.2.1,D.2.2.2.1,D.2.2.2.2.1,D.2.2.2.2.2.1,D.2.2.2.2.2.2.1,false,false,0):=h.deck ⟨hD.x,hD.y,hD.room,hD.lx,hD.ly,hD.ck⟩ rfl rfl;rcases vQp (k:=1000) (Nat.le_refl _) w.ok cW w.inv w.new aO (by omega) (s:=s) rfl rfl h1 with⟨D2,L2,c1,c2,c3,c4⟩|⟨_,c2⟩
 ·exact⟨_,D2,L2,vT1 hD,c1,c2,c3,c4.trans od⟩
 ·have c2:D.1<100000:=c2;omega
end Go.Ab.Gi
namespace Go.Ab.Gi
open Go.Ab Go.RowKit
theorem vQ2 {k}{r:qG}{s u:rq}{c:la}{o:List qY}{e}(h:ig k r s c=some (u,o,e))(h9:c.2.1=9):u=s:=by
 unfold ig at h;cases hm:uV k r s c with
 |none=>simp_all
 |some x=>
  cases hx:decide (x=0) with
  |false=>
   simp_all
  |true=>
   cases hq:Cp k s c.1 with
   |none=>simp_all
   |some y=>
    simp_all
theorem qZr {s t:zU}(h:s.st=t.st):s=t:=by
 obtain⟨a,⟨b1,b2,b3,b4⟩,c,d,e,f,g,i⟩:=s;unfold zU.st at h;simp_all
theorem vPo {k:Nat}(hk:1000≤k){r:qG}(hr:vM r):vA0 k r:=fun s hs c hc hf=>by
 obtain⟨t,o,e,h1,h2⟩:=vSd hk hr hs.inv c;refine⟨t,o,e,h1,⟨h2.inv,fun x hx=>?_⟩,fun h=>(h2.bad h).1⟩;rcases h2.ids x hx with h|h
 ·exact hs.ids x h
 ·rw[h];exact(hf _ (List.mem_cons_self ..)).2
end Go.Ab.Gi
namespace Go.Ab.Gi
open Go.Ab Go.RowKit
def Ms (r:qG):Prop:=r=r0∨r=r1∨r=r2∨r=r3
theorem vWp {r}(h:Ms r):qTy 1000 r=some (jY r).st:=by
 rcases h with rfl|rfl|rfl|rfl<;>kernel_rfl
theorem qYy {r}(h:Ms r):vZ4 1000 r:=by
 rcases h with rfl|rfl|rfl|rfl
 ·exact⟨by kernel_rfl,fun ev h1 h2=>by
   unfold fB;rw[show nG 1000 r0=some true by kernel_rfl,ae,aB,ak,ab (show¬ev<1 by omega),ak,ab (show¬ev>1000 by omega),ak]
   kernel_rfl,by kernel_rfl⟩
 ·exact⟨by kernel_rfl,fun ev h1 h2=>by
   unfold fB;rw[show nG 1000 r1=some true by kernel_rfl,ae,aB,ak,ab (show¬ev<1 by omega),ak,ab (show¬ev>1000 by omega),ak]
   kernel_rfl,by kernel_rfl⟩
 ·exact⟨by kernel_rfl,fun ev h1 h2=>by
   unfold fB;rw[show nG 1000 r2=some true by kernel_rfl,ae,aB,ak,ab (show¬ev<1 by omega),ak,ab (show¬ev>1000 by omega),ak]
   kernel_rfl,by kernel_rfl⟩
 ·exact⟨by kernel_rfl,fun ev h1 h2=>by
   unfold fB;rw[show nG 1000 r3=some true by kernel_rfl,ae,aB,ak,ab (show¬ev<1 by omega),ak,ab (show¬ev>1000 by omega),ak]
   kernel_rfl,by kernel_rfl⟩
def yRr (r:qG):Bool:=decide ((jb 1000 r).2.2.1=((jb 1000 r).2.1.length:Int))&&decide ((jb 1000 r).2.2.2.2.1=0)&&decide ((jb 1000 r).2.2.2.1.length=0)&&decide ((jb 1000 r).2.2.2.2.2.2.1<9223372036854775808)&& !lh (jb 1000 r)&&decide ((jb 1000 r).2.1=jR [yB 1++jQ (jY r)])&&decide ((jY r).to=0)&&(jY r).ids.all (fun x=>decide (x<9223372036854775808))
theorem vUt {r:qG}(h:Ms r):yRr r=true:=by
 rcases h with rfl|rfl|rfl|rfl<;>kernel_rfl
theorem fresh {r:qG}(h:Ms r)(w:tm r):mB r (jY r)∧(jY r).to=0∧gO 1000 r 0 (jY r) (0,1,0,false) (jb 1000 r)∧(jb 1000 r).1=200000∧jD (jb 1000 r)=false:=by
 have c:=(qYy h).calm;have f:=vUt h;simp only[yRr,bc,Bool.not_eq_true',aX,List.all_eq_true] at c f;obtain⟨⟨⟨⟨c1,c2⟩,c3⟩,c4⟩,c5⟩:=c;obtain⟨⟨⟨⟨⟨⟨⟨f1,f2⟩,f3⟩,f4⟩,f5⟩,f6⟩,f7⟩,f8⟩:=f;have i6:mB r (jY r):=⟨w.inv,f8⟩;refine⟨i6,f7,⟨⟨f1,by rw[f3];exact f2,by omega,by omega,by omega,f4⟩,f5,.inl rfl,rfl,by decide,⟨jY r,[],⟨i6,i6,.nil _,by decide,fun x hx=>absurd hx List.not_mem_nil,Nat.le_refl 0⟩,f6⟩,.inl ?_⟩,c3,c1⟩;have e:vB (jb 1000 r) (1-0)=(jb 1000 r).2.2.2.1:=rfl;show Cut (vB (jb 1000 r) (1-0));rw[e,List.eq_nil_of_length_eq_zero f3];exact JV
end Go.Ab.Gi
namespace Go.Ab.Gi
open Go.Ab Go.RowKit
theorem aab {l:List oL}(hb:∀a∈l,a.2.2.1.length≤140737488355328):∃b,Q8 1000 l=some b∧(b=false→l.length≤100∧∀a∈l,a.2.2.1.length≤8000):=by
 have key:∀(c n i:Nat) (s:Nat),i+c=min l.length 200→c<n→s≤140737488355328*i→(∀j,j<i→(l.getD j d0).2.2.1.length≤s)→
   ∃t:Nat,HY 1000 n l (s:Int) (i:Int)=some (l,(t:Int))∧∀j,j<min l.length 200→(l.getD j d0).2.2.1.length≤t:=by
  intro c
  induction c with
  |zero=>
   intro n i s h1 h2 h3 h4;obtain⟨n,rfl⟩:∃m,n=m+1:=⟨n-1,by omega⟩;refine⟨s,?_,fun j hj=>h4 j (by omega)⟩;show HZ 1000 _ l (s:Int) (i:Int)=_;unfold HZ;by_cases h:i<l.length
   ·rw[aa (show(i:Int)<l.length by omega),ab (by omega)];rfl
   ·rw[ab (by omega)];rfl
  |succ c ih=>
   intro n i s h1 h2 h3 h4;obtain⟨n,rfl⟩:∃m,n=m+1:=⟨n-1,by omega⟩;have hi:i<l.length:=by omega
   have hl:=hb _ (fg (d:=d0) hi);obtain ⟨t, g1, g2⟩ := ih n (i + 1) (s + (l.getD i d0).2.2.1.length) (by omega) (by omega) (by omega) (fun j hj=>by
    by_cases e:j=i
    ·subst e;omega
    ·have:=h4 j (by omega);omega)
   refine⟨t,?_,g2⟩;show HZ 1000 (HY 1000 n) l (s:Int) (i:Int)=_;unfold HZ;rw[aa (show(i:Int)<l.length by omega),aa (show(i:Int)<200 by omega),wV (by omega) (by omega),ao];simp only[ag];have e:(s:Int)+((l.getD i (0,0,[],0,0)).2.2.1.length:Int)=((s+(l.getD i d0).2.2.1.length:Nat):Int):=by rw[Int.natCast_add];rfl
   rw[e,zO (by omega) (by omega),qD (N:=200) (by omega) (by omega)];exact g1
 obtain⟨t,g1,g2⟩:=key (min l.length 200) 1000 0 0 (by omega) (by omega) (by omega) (fun j hj=>absurd hj (Nat.not_lt_zero j));unfold Q8;have g1:HY 1000 1000 l 0 0=some (l,(t:Int)):=g1;rw[g1];simp only[ae];by_cases h:(l.length:Int)>100
 ·rw[aa h];exact⟨true,rfl,fun e=>by cases e⟩
 ·rw[ab h];refine⟨_,rfl,fun e=>⟨by omega,fun a ha=>?_⟩⟩;have e:=gh e;obtain⟨j,hj,rfl⟩:=List.mem_iff_getElem.1 ha;have:=g2 j (by omega);rw[bL,List.getElem?_eq_getElem hj] at this;have:(l[j]).2.2.1.length≤t:=this;omega
inductive H0 (r:qG):zU→List oL→zU→List (List qY)→Prop
 |nil (s:zU):H0 r s [] s []
 |cons {s t u:zU} {a:oL} {A:List oL} {o:List qY} {os:List (List qY)} (h:ZO 1000 r s a.2.1 (kT a.2.2.1) t o) (hi:qW r s) (g:H0 r t A u os):H0 r s (a::A) u (o::os)
theorem H0.snoc {r:qG}{s t u:zU}{a:oL}{A:List oL}{o:List qY}{os:List (List qY)}(g:H0 r s A t os)(ht:qW r t)(h:ZO 1000 r t a.2.1 (kT a.2.2.1) u o):H0 r s (A++[a]) u (os++[o]):=by
 induction g with
 |nil s=>exact .cons h ht (.nil _)
 |cons h' hi _ ih=>exact .cons h' hi (ih ht h)
theorem vLl {k:Nat}(a:Int):∃r,Mt k a=some r∧tm r∧Ms r:=by
 unfold Mt;cases decide (yM .i64 a 3=1) with
 |true=>exact⟨r1,rfl,vRz,.inr (.inl rfl)⟩
 |false=>
  cases decide (yM .i64 a 3=2) with
  |true=>exact⟨r2,rfl,vMf,.inr (.inr (.inl rfl))⟩
  |false=>
   cases decide (yM .i64 a 3=3) with
   |true=>exact⟨r3,rfl,ZI,.inr (.inr (.inr rfl))⟩
   |false=>exact⟨r0,rfl,vWb,.inl rfl⟩
end Go.Ab.Gi
namespace Go.Ab.Gi
open Go.Ab Go.RowKit
theorem tp (r s ev L D):lk 1000 (jA r s ev) L D=some (false,jA r s ev,L,D):=rfl
theorem Mu (r s ev L D):lk 1000 (CE r s ev) L D=some (true,CE r s ev,L,D):=rfl
theorem aac {r}(hr:vM r){s}(h:mB r s):jc 1000 s.st=some s.st:=by
 unfold jc;obtain⟨h1,h2⟩:=vNb hr h;simp_all
theorem CK {r}(hr:vM r){s}(hs:qW r s)(rec:H2) ev (l:List oL) i (L:fV)(D:vX):
    ((vP 1000 (jA r s ev) L D).bind fun dU=>
       (jN 1000 dU.1 s.st).bind fun mC=>
       bif !mC then some (.inr false)
       else rec ev l i (r.1,r.2.2) r.2.1 (dU.2.2.2.1,dU.2.2.2.2.2.1,dU.2.2.2.2.2.2.2) dU.2.2.2.2.1 dU.2.2.2.2.2.2.1 dU.2.1 dU.2.2.1 s.st)=rec ev l i (r.1,r.2.2) r.2.1 (D.1,D.2.2.1,D.2.2.2.2) D.2.1 D.2.2.2.1 (jA r s ev) L s.st:=by
  refine(congrArg (fun z=>Option.bind z _) (ZG hr hs)).trans ?_;rfl
theorem qSc {r}(w:tm r)(cW:nG 1000 r=some true){ev}(aO:1≤ev∧ev≤1000){N}(hN:N≤870){s D}(h:gM 1000 r N s D)(od:D.1=200000) S M (hSM:s=S∨s=M)(rec:H2)(l:List oL) i:
    ∃ L2 D2, ((nH 1000 D).bind fun oH=>
      (fB 1000 ((r.1,r.2.2).1,r.2.1,(r.1,r.2.2).2) oH ev).bind fun bO=>
      match bO with
      |.inl gP=>bif !(decide (gP.1=0)) then some (.inr false)
       else(vP 1000 gP.2.2.1 gP.2.2.2 gP.2.1).bind fun eH=>
       (jN 1000 eH.1 S.st).bind fun mD=>
       bif !mD then ((vP 1000 eH.2.1 eH.2.2.1 eH.2.2.2).bind fun je=>
        (jN 1000 je.1 M.st).bind fun eI=>
        bif !eI then some (.inr false)
        else(vP 1000 je.2.1 je.2.2.1 je.2.2.2).bind fun lK=>
        (jc 1000 lK.1).bind fun mE=>
        rec ev l i (r.1,r.2.2) r.2.1 (lK.2.2.2.1,lK.2.2.2.2.2.1,lK.2.2.2.2.2.2.2) lK.2.2.2.2.1 lK.2.2.2.2.2.2.1 lK.2.1 lK.2.2.1 mE)
       else(vP 1000 eH.2.1 eH.2.2.1 eH.2.2.2).bind fun mF=>
       (jc 1000 mF.1).bind fun Mv=>
       rec ev l i (r.1,r.2.2) r.2.1 (mF.2.2.2.1,mF.2.2.2.2.2.1,mF.2.2.2.2.2.2.2) mF.2.2.2.2.1 mF.2.2.2.2.2.2.1 mF.2.1 mF.2.2.1 Mv
      |.inr lL=>bif !(decide (lL.1=0)) then some (.inr false)
       else some (.inr false))=rec ev l i (r.1,r.2.2) r.2.1 (D2.1,D2.2.2.1,D2.2.2.2.2) D2.2.1 D2.2.2.2.1 (jA r s ev) L2 s.st∧gO 1000 r (N+1) s L2 D2∧D2.1=200000:=by
  obtain⟨D1,D2,L2,a1,a2,a3,_,a5⟩:=vIl w cW aO hN h od;have h6:mB r s:=by
    obtain⟨_,_,hM,_⟩:=a3.main;exact hM.i
  refine⟨L2,D2,?_,a3,a5⟩;have hcp:=aac w.ok h6;obtain⟨b,hb⟩:=vOk w.ok h6.inv S;rw[a1,ae];refine(congrArg (fun z=>Option.bind z _) a2).trans ?_;refine(congrArg (fun z=>Option.bind z _) hb).trans ?_;cases b with
  |true=>
    refine(congrArg (fun z=>Option.bind z _) hcp).trans ?_;rfl
  |false=>
    have hsM:s=M:=by
      rcases hSM with e|e
      · rw[←e,ZG w.ok h6.inv] at hb;cases hb
      omega
    rw[←hsM];refine(congrArg (fun z=>Option.bind z _) (ZG w.ok h6.inv)).trans ?_;refine(congrArg (fun z=>Option.bind z _) hcp).trans ?_;rfl
theorem vU8 {r:qG}(w:tm r)(cW:nG 1000 r=some true){ev:Int}(aO:1≤ev∧ev≤1000)(l:List oL){i:Nat}(hi:i<l.length)(bK:l.length≤1000)(ha:yPw 1000 (l.getD i d0)){N:Nat}(hN:N≤860){s:zU}{L:fV}{D:vX}(h:gO 1000 r N s L D)(od:D.1=200000)(rec:H2):
  ∃s' L' D',H3 1000 rec ev l (i:Int) (r.1,r.2.2) r.2.1 (D.1,D.2.2.1,D.2.2.2.2) D.2.1 D.2.2.2.1 (jA r s ev) L s.st=rec ev l ((i+1:Nat):Int) (r.1,r.2.2) r.2.1 (D'.1,D'.2.2.1,D'.2.2.2.2) D'.2.1 D'.2.2.2.1 (jA r s' ev) L' s'.st∧gO 1000 r (N+5) s' L' D'∧D'.1=200000:=by
 have hs6:mB r s:=by
  obtain⟨_,_,hM,_⟩:=h.main;exact hM.i
 have hs:=hs6.inv;obtain⟨⟨kd,a,b,cA,cK⟩,hx⟩:∃x,l.getD i d0=x:=⟨_,rfl⟩;rw[hx] at ha;obtain⟨BQ,Mw,ha3⟩:=ha;dsimp only at BQ Mw ha3;have nT:l.getD i (0,0,[],0,0)=(kd,a,b,cA,cK):=hx;have lt:decide ((i:Int)<(l.length:Int))=true:=aa (by omega);have bd:zB (i:Int) l.length=true:=wV (by omega) (by omega);have w1:zA ((i:Int)+1)=((i+1:Nat):Int):=qD hi (by omega);unfold H3;rw[lt,bd,ao,nT,w1];simp only[ag];by_cases k2:kd=2
 ·rw[aa k2];have hD:=h.clean;refine⟨s,L,(D.1,D.2.1,D.2.2.1,D.2.2.2.1,D.2.2.2.2.1,cA,cK,true,D.2.2.2.2.2.2.2.2),rfl,?_,od⟩;obtain⟨q1,q2,q3,q4,q5,q6,q7⟩:=h.more (show N≤N+5 by omega);exact⟨⟨hD.x,hD.y,hD.room,hD.lx,hD.ly,ha3⟩,q2,q3,q4,q5,q6,q7⟩
 rw[ab k2];simp only[ak];by_cases k1:kd=1
 case neg=>
  rw[ab k1];simp only[ak];refine⟨s,L,D,?_,h.more (by omega),od⟩;refine(congrArg (fun z=>Option.bind z _) (tp r s ev L D)).trans ?_;simp only[ae,bG,ag];exact CK w.ok hs rec ev l _ L D
 rw[aa k1];simp only[ag];obtain⟨o,G',L',D',d1,d2,d3⟩:=Z4 (k:=1000) (Nat.le_refl _) w.ok (vPo (Nat.le_refl _) w.ok) (fun s c u o e h h9=>vQ2 h h9) (ev:=ev) (by omega) h BQ (b:=b) Mw.1 Mw.2;have fm:JQ 1000 b=some (kT b):=Ws (by decide) Mw.1 Mw.2;have vn:D'.1=200000:=d2.trans od;generalize kT b=m at d3 fm;obtain⟨t',o',e',q1,q2,q3⟩:=vZw w.ok hs (a,m.1);have yv:∀u:zU,ig 1000 r s.st (a,m.1)=some (u.st,o,0)→t'=u:=fun u hu=>by
  have:=q1.symm.trans hu;simp only[Option.some.injEq,Prod.mk.injEq] at this;exact qZr this.1
 cases d3 with
 |none hA=>
  refine⟨s,L,D,?_,h.more (by omega),od⟩;refine(congrArg (fun z=>Option.bind z _) d1).trans ?_;simp only[ae];refine(congrArg (fun z=>Option.bind z _) fm).trans ?_;simp only[ae];by_cases hm:m.2=0
  ·rw[aa hm];simp only[ag];have et:t'=s:=by
    rcases hA with⟨h0,_⟩|⟨_,x,p,e,p1,⟨he,_,_⟩|⟨he,hx,_⟩⟩
    ·exact absurd hm h0
    ·have:=q1.symm.trans p1;simp only[Option.some.injEq,Prod.mk.injEq] at this;exact(q3.bad (by rw[this.2.2];exact he)).1
    ·have:=q1.symm.trans p1;simp only[Option.some.injEq,Prod.mk.injEq] at this;exact qZr (this.1.trans hx)
   subst et;refine(congrArg (fun z=>Option.bind z _) q2).trans ?_;simp only[ae];cases decide ((o.length:Int)>0) with
   |true=>
    simp only[ag];refine(congrArg (fun z=>Option.bind z _) (tp r t' ev L D)).trans ?_;simp only[ae,bG,ag];exact CK w.ok hs rec ev l _ L D
   |false=>
    simp only[ak];refine(congrArg (fun z=>Option.bind z _) (tp r t' ev L D)).trans ?_;simp only[ae,bG,ag];refine(congrArg (fun z=>Option.bind z _) (tp r t' ev L D)).trans ?_;simp only[ae,bG,ag];exact CK w.ok hs rec ev l _ L D
  ·rw[ab hm];simp only[ak];cases decide ((o.length:Int)>0) with
   |true=>
    simp only[ag];refine(congrArg (fun z=>Option.bind z _) (tp r s ev L D)).trans ?_;simp only[ae,bG,ag];exact CK w.ok hs rec ev l _ L D
   |false=>
    simp only[ak];refine(congrArg (fun z=>Option.bind z _) (tp r s ev L D)).trans ?_;simp only[ae,bG,ag];refine(congrArg (fun z=>Option.bind z _) (tp r s ev L D)).trans ?_;simp only[ae,bG,ag];exact CK w.ok hs rec ev l _ L D
 |disk hf p q=>omega
 |@done t _ _ _ hm hA hR lj=>
  have et:=yv t hA;subst et;refine⟨t',L',D',?_,hR.more (by omega),vn⟩;refine(congrArg (fun z=>Option.bind z _) d1).trans ?_;simp only[ae];refine(congrArg (fun z=>Option.bind z _) fm).trans ?_;simp only[ae];rw[aa hm];simp only[ag];refine(congrArg (fun z=>Option.bind z _) q2).trans ?_;simp only[ae];cases decide ((o.length:Int)>0) with
  |true=>
   simp only[ag];refine(congrArg (fun z=>Option.bind z _) (tp r t' ev L' D')).trans ?_;simp only[ae,bG,ag];exact CK w.ok q3.inv rec ev l _ L' D'
  |false=>
   simp only[ak];refine(congrArg (fun z=>Option.bind z _) (tp r t' ev L' D')).trans ?_;simp only[ae,bG,ag];refine(congrArg (fun z=>Option.bind z _) (tp r t' ev L' D')).trans ?_;simp only[ae,bG,ag];exact CK w.ok q3.inv rec ev l _ L' D'
 |@lost t _ _ _ hm hA lj hd dr=>
  have et:t'=t:=by
   have:=q1.symm.trans hA;simp only[Option.some.injEq,Prod.mk.injEq] at this;exact qZr this.1
  subst et;obtain⟨u,hu,hSu⟩:∃u,gM 1000 r (N+4) u D'∧(u=s∨u=t'):=by
   rcases dr with p|p
   ·exact⟨_,p,.inl rfl⟩
   ·exact⟨_,p,.inr rfl⟩
  obtain⟨L2,D2,e1,e2,e3⟩:=qSc w cW aO (by omega) hu vn s t' hSu rec l ((i+1:Nat):Int);refine⟨u,L2,D2,?_,e2,e3⟩;refine(congrArg (fun z=>Option.bind z _) d1).trans ?_;simp only[ae];refine(congrArg (fun z=>Option.bind z _) fm).trans ?_;simp only[ae];rw[aa hm];simp only[ag];refine(congrArg (fun z=>Option.bind z _) q2).trans ?_;simp only[ae];rw[show decide ((([]:List qE).length:Int)>0)=false from rfl];simp only[ak];refine(congrArg (fun z=>Option.bind z _) (Mu r s ev L' D')).trans ?_;simp only[ae,aB,ak];refine(congrArg (fun z=>Option.bind z _) (Mu r s ev L' D')).trans ?_;simp only[ae,aB,ak];exact e1
 |@late t _ _ _ hm hA lj hd dr=>
  have et:=yv t hA;subst et;cases ho:decide ((o.length:Int)>0) with
  |true=>
   obtain⟨L2,D2,e1,e2,e3⟩:=qSc w cW aO (by omega) dr vn t' t' (.inl rfl) rec l ((i+1:Nat):Int);refine⟨t',L2,D2,?_,e2,e3⟩;refine(congrArg (fun z=>Option.bind z _) d1).trans ?_;simp only[ae];refine(congrArg (fun z=>Option.bind z _) fm).trans ?_;simp only[ae];rw[aa hm];simp only[ag];refine(congrArg (fun z=>Option.bind z _) q2).trans ?_;simp only[ae];rw[ho];simp only[ag];refine(congrArg (fun z=>Option.bind z _) (Mu r t' ev L' D')).trans ?_;simp only[ae,aB,ak];exact e1
  |false=>
   obtain⟨L2,D2,e1,e2,e3⟩:=qSc w cW aO (by omega) dr vn s t' (.inr rfl) rec l ((i+1:Nat):Int);refine⟨t',L2,D2,?_,e2,e3⟩;refine(congrArg (fun z=>Option.bind z _) d1).trans ?_;simp only[ae];refine(congrArg (fun z=>Option.bind z _) fm).trans ?_;simp only[ae];rw[aa hm];simp only[ag];refine(congrArg (fun z=>Option.bind z _) q2).trans ?_;simp only[ae];rw[ho];simp only[ak];refine(congrArg (fun z=>Option.bind z _) (Mu r t' ev L' D')).trans ?_;simp only[ae,aB,ak];refine(congrArg (fun z=>Option.bind z _) (Mu r t' ev L' D')).trans ?_;simp only[ae,aB,ak];exact e1
theorem vMs {r}(w:tm r)(cW:nG 1000 r=some true){ev}(aO:1≤ev∧ev≤1000)(l:List oL)(hl:l.length≤50)(ha:∀a∈l,yPw 1000 a){s0 L0 D0}(h0:gO 1000 r 0 s0 L0 D0)(od:D0.1=200000):
  H4 1000 1000 ev l 0 (r.1,r.2.2) r.2.1 (D0.1,D0.2.2.1,D0.2.2.2.2) D0.2.1 D0.2.2.2.1 (jA r s0 ev) L0 s0.st=some (.inl ()):=by
 obtain⟨x,h1,h2⟩:=yX (L:=fun n i (x:zU×fV×vX)=>H4 1000 n ev l i (r.1,r.2.2) r.2.1 (x.2.2.1,x.2.2.2.2.1,x.2.2.2.2.2.2) x.2.2.2.1 x.2.2.2.2.2.1 (jA r x.1 ev) x.2.1 x.1.st) (N:=l.length)
  (fun x => (.inl () : Unit ⊕ Bool)) (fun i x => gO 1000 r (5 * i) x.1 x.2.1 x.2.2 ∧ x.2.2.1 = 200000) (fun n x _=>by
  show H3 1000 _ ev l (l.length:Int) (r.1,r.2.2) r.2.1 (x.2.2.1,x.2.2.2.2.1,x.2.2.2.2.2.2) x.2.2.2.1 x.2.2.2.2.2.1 (jA r x.1 ev) x.2.1 x.1.st=_;unfold H3;simp) (fun n i x hi hx=>by
  obtain⟨s',L',D',g1,g2,g3⟩:=vU8 w cW aO l hi (by omega) (by grind) (by omega) hx.1 hx.2 (H4 1000 n);exact⟨(s',L',D'),g1,g2,g3⟩) (n:=1000) (s:=(s0,L0,D0)) (by omega) (by grind)
 exact h1
theorem vXr (a ev:Int)(l:List oL)(hb:∀a∈l,Z3 a.2.1∧a.2.2.1.length≤140737488355328∧a.2.2.2.2<9223372036854775808):Q9 1000 a ev l=some true:=by
 unfold Q9;obtain⟨b,fJ,hb2⟩:=aab (fun x hx=>(hb x hx).2.1);rw[fJ];simp only[ae];cases b with
 |true=>rfl
 |false=>
 obtain⟨_,hlen⟩:=hb2 rfl;simp only[ak];by_cases q1:(l.length:Int)>50
 ·rw[aa q1];rfl
 rw[ab q1];by_cases h1:ev<1
 ·rw[aa h1];rfl
 rw[ab h1];by_cases h2:ev>50
 ·rw[aa h2];rfl
 rw[ab h2];simp only[ak];obtain⟨r,hr,w,hf⟩:=vLl (k:=1000) a;rw[hr];simp only[ae];obtain⟨i6,LD,hR,aP,aen⟩:=fresh hf w;have cW:nG 1000 r=some true:=by rcases hf with rfl|rfl|rfl|rfl<;>kernel_rfl
 rw[(qYy hf).new];simp only[ae];refine(congrArg (fun z=>Option.bind z _) ((qYy hf).is ev (by omega) (by omega))).trans ?_;simp only[ae,decide_true,aB,ak];refine(congrArg (fun z=>Option.bind z _) (vWp hf)).trans ?_;simp only[ae];have ld:=vMs w cW (ev:=ev) (by omega) l (by omega) (fun x hx=>⟨(hb x hx).1,⟨by have:=hlen x hx;omega,(hb x hx).2.1⟩,(hb x hx).2.2⟩) hR aP;refine(congrArg (fun z=>Option.bind z _) ld).trans ?_;have hk:qSn 1000=some true:=by kernel_rfl
 simp only[ae];rw[hk];rfl
end Go.Ab.Gi
