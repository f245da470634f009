/- Plain proofs, part 2. -/
import Derived.Test.YthpehdcmpldloaaGreatGiQB
import Derived.Test.YthpehdcmpldloaaGreatGiQA
set_option linter.unusedVariables false
set_option linter.unusedSimpArgs false
set_option maxRecDepth 100000
namespace Go.Ab.Gi
open Go.Ab
def Zr {k}(hk:1000≤k){r}(hr:vN r){s}(h:qX r s):LX k s.pr=some false:=by
 have ma:=h.bk.n1;have L:=h.laid 0 (by omega);have h3:=L.n3;have hp:=L.pl;have e2 : Cq k k s.pr (s.pr.length : Int) 0 = some (.inl ()) := Lp (L := fun n i => Cq k n s.pr (s.pr.length : Int) i) (fun n=>by
  show Hy k _ s.pr (s.pr.length:Int) (s.pr.length:Int)=_;unfold Hy;simp) (fun n i hi=>by
  show Hy k (Cq k n) s.pr (s.pr.length:Int) (i:Int)=_;unfold Hy Zs;have hv:=L.price i (by omega);rw[aa (by grind),qC,aa hi,ao,ny,aa (by grind),aa (by grind),qD hi (by omega)];rfl) (by omega)
 unfold LX Zt;simp_all
def Zu {k}(hk:1000≤k){sa pr h}(L:kS sa pr h):QP k h=some false:=by
 have h3:=L.n3;have hp:=L.hl;have e2 : Cr k k h (h.length : Int) 0 = some (.inl ()) := Lp (L := fun n i => Cr k n h (h.length : Int) i) (fun n=>by
  show Hz k _ h (h.length:Int) (h.length:Int)=_;unfold Hz;simp) (fun n i hi=>by
  show Hz k (Cr k n) h (h.length:Int) (i:Int)=_;unfold Hz Zv;have hv:=L.hold i (by omega);rw[aa (by grind),qC,aa hi,ao,ab (by grind),qD hi (by omega)];rfl) (by omega)
 unfold QP Zw;simp_all
def vVw {k}(hk:1000≤k){r}(hr:vN r){s}(h:qX r s):LY k r s.st=some true:=by
 have ma:=h.bk.n1;have gG:=h.bk.n6;have hn:=h.n;have hol:=h.hol;have L:=h.laid 0 (by omega);have e0:LY k r s.st=bif !(decide ((s.pr.length:Int)=(r.2.1.length:Int))) then some false
  else bif !(decide ((s.ho.length:Int)=r.1)) then some false
  else(LX k s.pr).bind fun x0=>
  bif x0 then some false
  else(yj k k s.ho (s.ho.length:Int) 0 r s.st).bind fun z=>
  match z with
  |.inl z1=>some true
  |.inr z2=>some z2:=rfl
 have e2 : yj k k s.ho (s.ho.length : Int) 0 r s.st = some (.inl ()) := Lp (L := fun n i => yj k n s.ho (s.ho.length : Int) i r s.st) (fun n=>by
  show HA k (yj k n) s.ho (s.ho.length:Int) (s.ho.length:Int) r s.st=_;unfold HA;simp) (fun n i hi=>by
  show HA k (yj k n) s.ho (s.ho.length:Int) (i:Int) r s.st=_;unfold HA;have bJ:i<s.B.1.length:=by omega
  have Li:=h.laid i bJ;have hc:(s.B.1.getD i ad).2.1=_:=h.cred i bJ;have hm:(s.B.1.getD i ad).2.1≤_:=h.most i bJ;have ep:s.st.2.2.2.2.2.1=s.pr:=rfl;have ea:s.st.2.1=s.B.1:=rfl;have ed:s.B.1.getD i (0,0,0)=s.B.1.getD i ad:=rfl;rw[aa (by grind),qC,aa hi,ao,ep,XQ Li (by omega),ea,qC,aa bJ,ed,Zu hk Li,qD hi (by omega)];grind) (by omega)
 rw[e0,aa (show(s.pr.length:Int)=(r.2.1.length:Int) by rw[L.pl]),aa (by grind),Zr hk hr h,e2];rfl
def Zx (s:zU):iS ((List.range s.B.1.length).map fun j=>(s.B.1.getD j ad).1)=qJ (fun j=>(s.B.1.getD j ad).1) s.B.1.length:=XP _ _
def Zy {k}(hk:1000≤k){r}(hr:vN r){s}(h:qX r s):LZ k r s.st=some true:=by
  have gG:=h.bk.n6;have ht:=h.tk;have LA:=h.tot;have Zz:Bw k s.B.1 s.B.2.1 s.B.2.2.1 s.B.2.2.2=some true:=by rw[yMk (by omega),OW.2 h.bk]
  obtain ⟨x, h1, h2⟩ := yW (L := fun n j (x : AC) => HB k n s.B.1 (s.B.1.length : Int) j r s.st x) (N := s.B.1.length) (fun x => (r, s.st, x)) (fun j x => x = (List.range j).map fun j => (s.B.1.getD j ad).1) (fun n x _=>by
    show HC k _ s.B.1 (s.B.1.length:Int) (s.B.1.length:Int) r s.st x=_;unfold HC;simp) (fun n j x hj hx=>by
    refine⟨x++[(s.B.1.getD j ad).1],?_,?_⟩
    · show HC k (HB k n) s.B.1 (s.B.1.length:Int) (j:Int) r s.st x=_;unfold HC;have hl:x.length=j:=by simp_all
      rw[aa (by grind),qC,aa hj,qI (by omega) (by omega),ao,qD hj (by omega)];rfl
    · rw[hx,List.range_succ,List.map_append];rfl) (n:=k) (s:=[]) (by omega) rfl
  have hb:∀i,i<x.length→-9223372036854775808≤x.getD i 0∧x.getD i 0<9223372036854775808:=by
    intro i hi;have hm:x.getD i 0∈x:=fa hi;rw[h2] at hm;obtain⟨j,hj,e⟩:=List.mem_map.1 hm;have:=pE.1 (h.bk.acct j (List.mem_range.1 hj));grind
  have hlen:x.length=s.B.1.length:=by simp_all
  have L4:iS x=s.to:=by rw[h2,Zx];exact h.sum
  have fH:xF (iS x)=true:=by rw[L4];unfold xF;grind
  have eU:LZ k r s.st=(vJ k s.t 0 r.2.2.2.1).bind fun x0=>
     bif !x0 then some false
     else(Bw k s.B.1 s.B.2.1 s.B.2.2.1 s.B.2.2.2).bind fun x1=>
     bif !x1 then some false
     else bif !(decide ((s.B.1.length:Int)=r.1)) then some false
     else(LY k r s.st).bind fun x2=>
     bif !x2 then some false
     else(LV k s.st).bind fun x3=>
     bif !x3 then some false
     else(HB k k s.B.1 (s.B.1.length:Int) 0 r s.st []).bind fun z=>
     (FX k z.2.2).bind fun x4=>
     bif !x4.2 then some false
     else bif !(decide (x4.1=z.2.1.2.2.2.2.2.2.2.2.2.1)) then some false
     else(vJ k x4.1 0 1152921504606846976).bind fun x5=>
     bif !x5 then some false
     else(BY k z.1.1 z.1.2.1 z.1.2.2.1 z.1.2.2.2.1 z.1.2.2.2.2 z.2.1.1).bind fun x6=>
     bif mO z.2.1.2.2.2.2.2.2.2.2.2.2 x6 then (bif !z.2.1.2.2.2.2.2.2.2.2.2.2 then some true
      else some (decide ((z.2.1.2.2.2.2.2.2.2.1.length:Int)=0)))
     else some false:=rfl
  have ec:∀b:Bool,mO b b=true:=fun b=>by cases b<;>rfl
  have eo:s.st.2.2.2.2.2.2.2.2.2.2=s.ov:=rfl;have em:s.st.2.2.2.2.2.2.2.1=s.m:=rfl;have et:s.st.2.2.2.2.2.2.2.2.2.1=s.to:=rfl;have e1:s.st.1=s.t:=rfl;have ecl:BY k r.1 r.2.1 r.2.2.1 r.2.2.2.1 r.2.2.2.2 s.t=some (decide (s.t=r.2.2.2.1)):=rfl;rw[eU,ny,aa (by grind),aa (by grind),Zz,aa h.n,vVw hk hr h,vXb hk h,h1];simp;rw[yJp (by omega) (by omega) hb,fH,L4];simp;rw[et,aa (by simp),ny,aa (by grind),aa (by grind)];rw[e1,ecl,eo,em,←h.over];simp only[ae];rw[ec];cases ho:s.ov with
  |false=>rfl
  |true=>rw[h.none ho];rfl
instance Ct:DecidableEq zH:=fun a b=>inferInstanceAs (Decidable (a=b))
def yPk {k}{a b:List zH}(hk:a.length<k)(hl:a.length<9223372036854775808):Cu k a b=some (decide (a=b)):=by
 unfold Cu;by_cases hlen:a.length=b.length
 case neg=>
  have e:decide (((a.length:Nat):Int)=((b.length:Nat):Int))=false:=by grind
  have:a≠b:=by grind
  simp_all
 have e:decide (((a.length:Nat):Int)=((b.length:Nat):Int))=true:=by grind
 have := mj (L := fun n i => L5 k n a b i) (N := a.length) (fun i => decide (a.getD i pd = b.getD i pd)) (.inl ()) (.inr false) (fun n=>by
  show HD k _ a b a.length=_;unfold HD;simp) (fun n i hi=>by
  show HD k _ a b i=_;unfold HD;have e7:=eq7 (a.getD i pd) (b.getD i pd);simp only[qC,qD hi hl];simp_all) hk
 rw[this,OX pd hlen];grind
def ZA {r s}(hr:vN r)(h:qX r s):jP 1000 s.st s.st=some true:=by
 have hb:wP s.B.1 s.B.2.1 s.B.2.2.1 s.B.2.2.2:=h.bk;have gG:=h.bk.n6;have ma:=h.bk.n1;have hm:=h.waits.len;have hi:=h.waits.idl;have h3:=hr.n3;have hL:=h.laid 0 (by omega);have e1:EX 1000 s.B.1 s.B.2.1 s.B.2.2.1 s.B.2.2.2 s.B.1 s.B.2.1 s.B.2.2.1 s.B.2.2.2=some true:=by
  rw[yN1 (by decide) hb.toSized];simp
 have e2:og 1000 s.pr s.pr=some true:=by rw[EU (by rw[hL.pl];omega) (by rw[hL.pl];omega),aa rfl]
 have e3:ux 1000 s.ho s.ho=some true:=by
  have hol:=h.hol;rw [OY (by omega) (by omega) (fun i hi=>by
   have:=(h.laid i (by omega)).hl;omega),aa rfl]
 have e4:Cu 1000 s.m s.m=some true:=by rw[yPk (by omega) (by omega),aa rfl]
 have e5:og 1000 s.ids s.ids=some true:=by rw[EU (by omega) (by omega),aa rfl]
 unfold jP;have f0:s.st.1=s.t:=rfl;have f9:s.st.2.2.2.2.2.2.2.2.2.1=s.to:=rfl;have f10:s.st.2.2.2.2.2.2.2.2.2.2=s.ov:=rfl;have q:mO s.ov s.ov=true:=by cases s.ov<;>rfl
 rw[f0,f9,f10,aa rfl,aa rfl,q];refine(congrArg (fun z=>Option.bind z _) e1).trans ?_;refine(congrArg (fun z=>Option.bind z _) e2).trans ?_;refine(congrArg (fun z=>Option.bind z _) e3).trans ?_;refine(congrArg (fun z=>Option.bind z _) e4).trans ?_;refine(congrArg (fun z=>Option.bind z _) e5).trans ?_;rfl
def eC (r:qG):zU where
 t:=0
 B:=(List.replicate r.1.toNat (0,0,0),List.replicate r.1.toNat (List.replicate r.1.toNat (-1)),List.replicate r.1.toNat (-1),List.replicate r.1.toNat (List.replicate r.1.toNat 0))
 pr:=r.2.1.map Prod.fst
 ho:=List.replicate r.1.toNat (List.replicate r.2.1.length 0)
 m:=[]
 ids:=[]
 to:=0
 ov:=false
structure tg (r:qG):Prop where
 ok:vN r
 inv:qX r (eC r)
 new:rp 1000 r=some (eC r).st
 cl:r.2.2.2.1≤20
 ad8:rp 20000 r=some (eC r).st
def QQ n:kh n [] [] where
 dist:=List.Pairwise.nil
 len:=by decide
 sort:=List.Pairwise.nil
 may:=by simp
 time:=by simp
 were:=by simp
 asc:=List.Pairwise.nil
 pos:=by simp
 idl:=by decide
def r0:qG:=(3,[(100,1000),(7,0)],12,20,4)
def r1:qG:=(4,[(100,1000),(7,0)],12,20,100)
def r2:qG:=(3,[],20,20,4)
def r3:qG:=(3,[(100,1000),(7,0)],0,6,1)
def ZB {pr h}(h1:pr=[100,7])(h2:h=[0,0]):kS [(100,1000),(7,0)] pr h:=by
 subst h1;subst h2;exact⟨by decide,rfl,rfl,by decide,by decide,by decide⟩
def QR {B}(h:np B.1 B.2.1 B.2.2.1 B.2.2.2=true):qP B:=OW.1 h
def ZC:tg r0:=⟨⟨by decide,by decide,by decide,by decide,by decide,by decide,by decide⟩,
  { tk:=by decide,bk:=QR (by rfl),n:=rfl,hol:=rfl,
    laid:=fun i hi=>by
      have e:∀i,i<(eC r0).B.1.length→(eC r0).ho.getD i []=[0,0]:=by decide
      exact ZB rfl (e i hi)
    cred:=by decide,most:=by decide,waits:=QQ _,sum:=by decide,tot:=by decide,over:=by decide,none:=nofun},by rfl,by decide,by rfl⟩
def vXp:tg r1:=⟨⟨by decide,by decide,by decide,by decide,by decide,by decide,by decide⟩,
  { tk:=by decide,bk:=QR (by rfl),n:=rfl,hol:=rfl,
    laid:=fun i hi=>by
      have e:∀i,i<(eC r1).B.1.length→(eC r1).ho.getD i []=[0,0]:=by decide
      exact ZB rfl (e i hi)
    cred:=by decide,most:=by decide,waits:=QQ _,sum:=by decide,tot:=by decide,over:=by decide,none:=nofun},by rfl,by decide,by rfl⟩
def ZD:tg r2:=⟨⟨by decide,by decide,by decide,by decide,by decide,by decide,by decide⟩,
  { tk:=by decide,bk:=QR (by rfl),n:=rfl,hol:=rfl,
    laid:=fun i hi=>by
      have e:∀i,i<(eC r2).B.1.length→(eC r2).ho.getD i []=[]:=by decide
      rw[e i hi];exact⟨by decide,rfl,rfl,by decide,by decide,by decide⟩
    cred:=by decide,most:=by decide,waits:=QQ _,sum:=by decide,tot:=by decide,over:=by decide,none:=nofun},by rfl,by decide,by rfl⟩
def vUn:tg r3:=⟨⟨by decide,by decide,by decide,by decide,by decide,by decide,by decide⟩,
  { tk:=by decide,bk:=QR (by rfl),n:=rfl,hol:=rfl,
    laid:=fun i hi=>by
      have e:∀i,i<(eC r3).B.1.length→(eC r3).ho.getD i []=[0,0]:=by decide
      exact ZB rfl (e i hi)
    cred:=by decide,most:=by decide,waits:=QQ _,sum:=by decide,tot:=by decide,over:=by decide,none:=nofun},by rfl,by decide,by rfl⟩
structure Tk (L:fS) (N:Nat):Prop where
 side:L.1=0∨L.1=1
 gen:1≤L.2.1∧L.2.1≤(N:Int)+1
 rows:0≤L.2.2.1∧L.2.2.1≤(N:Int)
 stale:L.2.2.2=false
def Tk.more {L N M}(h:Tk L N)(hN:N≤M):Tk L M:=⟨h.side,⟨h.gen.1,by have:=h.gen.2;omega⟩,⟨h.rows.1,by have:=h.rows.2;omega⟩,h.stale⟩
structure aem (k:Nat) (s:Eu) (b:AC):Prop where
 is:mn k s=some b
 len:b.length≤50000
def vLf {c:Nat}{l:EQ}(h:∀x∈l,x.length≤c):(qA l).length≤8*(c+1)*l.length:=by
 induction l with
 |nil=>simp[qA]
 |cons x l ih=>
  have h1:=ih fun y hy=>h y (List.mem_cons_of_mem _ hy)
  have h2:=h x (List.mem_cons_self ..);have h3:8*(c+1)*(l.length+1)=8*(c+1)*l.length+8*(c+1):=Nat.mul_succ _ _;simp only[qA,List.flatMap_cons,List.length_append,fe,List.length_cons] at h1⊢;rw[h3];omega
def ZE {l:EQ}{n:Nat}(h:∀i,i<l.length→(l.getD i []).length=n){x:AC}(hx:x∈l):x.length=n:=by
 obtain⟨i,hi,e⟩:=List.mem_iff_getElem.1 hx;have:=h i hi;rw[List.getD_eq_getElem?_getD,List.getElem?_eq_getElem hi] at this;rw[←e];exact this
def ZF {r:qG}(hr:vN r){s:zU}(h:qX r s):∃l,wF s.st=l++[s.ids]∧l.length≤67∧∀x∈l,x.length≤9:=by
 have n6:=h.bk.n6;have n1:=h.bk.n1;have hm:=h.waits.len;have h3:=hr.n3;have hb:wP s.B.1 s.B.2.1 s.B.2.2.1 s.B.2.2.2:=h.bk;have hL:=h.laid 0 (by omega);have hol:=h.hol;refine⟨_,rfl,?_,fun x hx=>?_⟩
 ·simp only[List.length_append,List.length_cons,List.length_nil,List.length_map];show 0+1+s.B.1.length+s.B.2.1.length+(0+1)+s.B.2.2.2.length+(0+1)+s.ho.length+s.m.length≤67;have:=hb.bl;have:=hb.pl;omega
 ·simp only[List.mem_append,List.mem_singleton,List.mem_map] at hx;rcases hx with(((((((rfl|⟨a,_,rfl⟩)|hx)|rfl)|hx)|rfl)|hx)|⟨a,_,rfl⟩)
  ·simp
  ·simp[wL]
  ·have:=ZE (l:=s.B.2.1) (fun i hi=>hb.br i (by have:=hb.bl;omega)) hx;omega
  ·show s.B.2.2.1.length≤9;have:=hb.ml;omega
  ·have:=ZE (l:=s.B.2.2.2) (fun i hi=>hb.pr i (by have:=hb.pl;omega)) hx;omega
  ·show s.pr.length≤9;rw[hL.pl];omega
  ·have:=ZE (l:=s.ho) (fun i hi=>(h.laid i (by omega)).hl) hx;omega
  ·simp[vK]
def ZG {k:Nat}(hk:1000≤k){r:qG}(hr:vN r){s:zU}(h:qX r s):∃b,mn k s.st=some b∧b=qA (wF s.st)∧b.length≤7000:=by
 obtain⟨l,e,h1,h2⟩:=ZF hr h;have hi:=h.waits.idl;have hf:wZ (wF s.st):=by
  rw[e];refine⟨by rw[List.length_append];simp;omega,fun x hx=>?_⟩;rcases List.mem_append.1 hx with hx|hx
  ·have:=h2 x hx;omega
  ·rw[List.mem_singleton.1 hx];omega
 refine⟨_,yS1 hk hf,rfl,?_⟩;rw[e];have:=vLf h2;have e2:qA (l++[s.ids])=qA l++qV s.ids:=by simp[qA]
 rw[e2,List.length_append,fe];omega
def jE (r:qG)(s:zU)(ev:Int):xq:=(r.1,r.2.1,r.2.2.1,r.2.2.2.1,r.2.2.2.2,s.t,s.B.1,s.B.2.1,s.B.2.2.1,s.B.2.2.2,s.pr,s.ho,s.m,s.ids,s.to,s.ov,ev,false)
structure ZH (r:qG) (ev:Int) (N:Nat) (s:zU) (G:xq) (L:fS) (D:vX):Prop where
 g:G=jE r s ev
 inv:qX r s
 calm:Wu D
 room:D.1=200000
 x:(vA D 0).length≤20000+100*N
 y:(vA D 1).length≤20000+100*N
 tk:Tk L N
def ZH.more {r:qG}{ev:Int}{N M:Nat}{s:zU}{G:xq}{L:fS}{D:vX}(h:ZH r ev N s G L D)(hM:N≤M):ZH r ev M s G L D:=
 ⟨h.g,h.inv,h.calm,h.room,by have:=h.x;omega,by have:=h.y;omega,h.tk.more hM⟩
def ZI (k:Nat)(r:qG)(s:zU)(a:Int)(m:zC×Int)(t:zU)(o:List qE):Prop:=
 (m.2≠0∧t=s∧o=[(a,16,m.2,0,0,0,0,0)])∨
 (m.2=0∧∃u p e,hZ k r s.st (a,m.1)=some (u,p,e)∧((e≠0∧t=s∧o=[(a,16,e,0,0,0,0,0)])∨(e=0∧u=t.st∧o=p)))
def ZJ (x y:Int):wN false x y=max x y:=by
 unfold wN;by_cases h:y>x
 ·rw[aa h];show y=_;omega
 ·rw[ab h];show x=_;omega
def ZK (x y:Int):wN true x y=min x y:=by
 unfold wN;by_cases h:y<x
 ·rw[aa h];show y=_;omega
 ·rw[ab h];show x=_;omega
section
variable {k:Nat} {ro sx sy cA cK op:Int} {x y b:AC} {ar:Bool}
def L6 (hx:0≤sx∧sx≤(x.length:Int))(hy:0≤sy∧sy≤(y.length:Int))(lx:x.length≤1000000)(ly:y.length≤1000000)(hk:cK<9223372036854775808):
  la k (ro,x,sx,y,sy,cA,cK,ar,false,op)=some (false,(ro,x,sx,y,sy,cA,cK,ar,false,zA (op+1)))∨
  (ar=true∧∃a c:Nat,sx≤(a:Int)∧a≤x.length∧sy≤(c:Int)∧c≤y.length∧la k (ro,x,sx,y,sy,cA,cK,ar,false,op)=some (true,(ro,x.take a,(a:Int),y.take c,(c:Int),cA,cK,ar,true,op))):=by
 cases ar with
 |false=>exact .inl rfl
 |true=>
 by_cases h:op<cA
 ·left;unfold la;dsimp only;rw[aA,ak,aa h];rfl
 ·right;refine⟨rfl,?_⟩;obtain⟨a,ha⟩:∃a:Nat,sx+min (max cK 0) ((x.length:Int)-sx)=(a:Int):=⟨(sx+min (max cK 0) ((x.length:Int)-sx)).toNat,by omega⟩;obtain⟨c,hc⟩:∃c:Nat,sy+min (max cK 0-min (max cK 0) ((x.length:Int)-sx)) ((y.length:Int)-sy)=(c:Int):=⟨(sy+min (max cK 0-min (max cK 0) ((x.length:Int)-sx)) ((y.length:Int)-sy)).toNat,by omega⟩;refine⟨a,c,by omega,by omega,by omega,by omega,?_⟩;have w1:zA ((x.length:Int)-sx)=(x.length:Int)-sx:=zO (by omega) (by omega);have w2:zA ((y.length:Int)-sy)=(y.length:Int)-sy:=zO (by omega) (by omega);have w3:zA (max cK 0-min (max cK 0) ((x.length:Int)-sx))=max cK 0-min (max cK 0) ((x.length:Int)-sx):=zO (by omega) (by omega);have w4:zA (sx+min (max cK 0) ((x.length:Int)-sx))=(a:Int):=by rw[ha];exact zO (by omega) (by omega)
  have w5:zA (sy+min (max cK 0-min (max cK 0) ((x.length:Int)-sx)) ((y.length:Int)-sy))=(c:Int):=by rw[hc];exact zO (by omega) (by omega)
  unfold la;dsimp only;simp only[ZJ,ZK,w1,w2,w3,w4,w5];rw[aA,ak,ab h,ak,aa (show(0:Int)≤(a:Int) by omega),aa (show(a:Int)≤(x.length:Int) by omega),aa (show(0:Int)≤(c:Int) by omega),aa (show(c:Int)≤(y.length:Int) by omega)];simp only[Bool.and_self,ag,ao,Nat.sub_zero]
end
structure pF (D:vX):Prop where
 x:D.2.2.1=(D.2.1.length:Int)
 y:D.2.2.2.2.1=(D.2.2.2.1.length:Int)
 room:0≤D.1∧D.1≤200000
 lx:(D.2.1.length:Int)≤D.1
 ly:(D.2.2.2.1.length:Int)≤D.1
 ck:D.2.2.2.2.2.2.1<9223372036854775808
def ld (D:vX):Bool:=D.2.2.2.2.2.2.2.2.1
def jA (D:vX):Bool:=D.2.2.2.2.2.2.2.1
structure nC (D D':vX) (i:Int) (c:AC) (dn:Bool):Prop where
 clean:pF D'
 room:D'.1=D.1
 it:vA D' i=c
 oth:vA D' (1-i)=vA D (1-i)
 dn:ld D'=dn
 ar:jA D'=jA D
def yEt {k:Nat}{D:vX}(h:pF D)(hu:ld D=false){i:Int}(hi:i=0∨i=1){b:AC}(hb:b.length≤100000):
  ((b.length:Int)>D.1-((vA D i).length:Int)∧yk k D i b=some (3,D))∨
  (jA D=true∧∃D',yk k D i b=some (11,D')∧nC D D' i (vA D i) true)∨
  ((b.length:Int)≤D.1-((vA D i).length:Int)∧∃D1,yk k D i b=some (0,D1)∧((∃D2,vg k D1=some (0,D2)∧nC D D2 i (vA D i++b) false)∨(jA D=true∧∃(D2:vX) (j:Nat),vg k D1=some (11,D2)∧j≤b.length∧nC D D2 i (vA D i++b.take j) true))):=by
 obtain⟨ro,x,sx,y,sy,cA,cK,ar,dn,op⟩:=D;obtain⟨h1,h2,h3,h4,h5,h6⟩:=h;dsimp only at h1 h2 h3 h4 h5 h6;have hu:dn=false:=hu;subst h1 h2 hu;rcases hi with rfl|rfl
 ·have hw:zA (ro-(x.length:Int))=ro-(x.length:Int):=zO (by omega) (by omega);by_cases hf:(b.length:Int)>ro-(x.length:Int)
  ·refine .inl ⟨hf,?_⟩;show(bif decide ((b.length:Int)>zA (ro-(x.length:Int))) then _ else _)=_;rw[hw,aa hf];rfl
  ·right;have eA:yk k (ro,x,(x.length:Int),y,(y.length:Int),cA,cK,ar,false,op) 0 b=(la k (ro,x,(x.length:Int),y,(y.length:Int),cA,cK,ar,false,op)).bind fun x2=>bif x2.1 then some (11,x2.2) else bif zL (x2.2.2.1.length+b.length) 1 then some (0,x2.2.1,(x2.2.2.1++b),x2.2.2.2) else none:=by
    show(bif decide ((b.length:Int)>zA (ro-(x.length:Int))) then _ else _)=_;rw[hw,ab hf];rfl
   rcases L6 (k:=k) (ro:=ro) (sx:=x.length) (sy:=y.length) (cA:=cA) (cK:=cK) (op:=op) (x:=x) (y:=y) (ar:=ar) ⟨by omega,by omega⟩ ⟨by omega,by omega⟩ (by omega) (by omega) h6 with g|⟨ha,a,c,a1,a2,c1,c2,g⟩
   ·right;refine⟨by show(b.length:Int)≤ro-(x.length:Int);omega,(ro,x++b,(x.length:Int),y,(y.length:Int),cA,cK,ar,false,zA (op+1)),?_,?_⟩
    ·rw[eA,g,ae];dsimp only;rw[ak,qI (by omega) (by omega)];rfl
    ·have eS:vg k (ro,x++b,(x.length:Int),y,(y.length:Int),cA,cK,ar,false,zA (op+1))=(la k (ro,x++b,(x.length:Int),y,(y.length:Int),cA,cK,ar,false,zA (op+1))).bind fun x1=>bif x1.1 then some (11,x1.2) else some (0,x1.2.1,x1.2.2.1,(x1.2.2.1.length:Int),x1.2.2.2.2.1,(x1.2.2.2.2.1.length:Int),x1.2.2.2.2.2.2):=rfl
     have hl:(x++b).length=x.length+b.length:=List.length_append;rcases L6 (k:=k) (ro:=ro) (sx:=x.length) (sy:=y.length) (cA:=cA) (cK:=cK) (op:=zA (op+1)) (x:=x++b) (y:=y) (ar:=ar) ⟨by omega,by omega⟩ ⟨by omega,by omega⟩ (by omega) (by omega) h6 with g'|⟨ha,a,c,a1,a2,c1,c2,g'⟩
     ·refine .inl ⟨(ro,x++b,((x++b).length:Int),y,(y.length:Int),cA,cK,ar,false,zA (zA (op+1)+1)),by rw[eS,g'];rfl,⟨rfl,rfl,h3,?_,h5,h6⟩,rfl,rfl,rfl,rfl,rfl⟩;show((x++b).length:Int)≤ro;omega
     ·have ec:c=y.length:=by omega
      subst ec;have e1:(x++b).take a=x++b.take (a-x.length):=by rw[List.take_append,List.take_of_length_le (show x.length≤a by omega)]
      refine .inr ⟨ha,(ro,x++b.take (a-x.length),(a:Int),y,(y.length:Int),cA,cK,ar,true,zA (op+1)),a-x.length,by rw[eS,g',e1,List.take_length];rfl,by omega,⟨?_,rfl,h3,?_,h5,h6⟩,rfl,rfl,rfl,rfl,rfl⟩
      ·show(a:Int)=((x++b.take (a-x.length)).length:Int);rw[List.length_append,List.length_take];omega
      ·show((x++b.take (a-x.length)).length:Int)≤ro;rw[List.length_append,List.length_take];omega
   ·left;have ea:a=x.length:=by omega
    have ec:c=y.length:=by omega
    subst ea ec;rw[List.take_length,List.take_length] at g;exact⟨ha,(ro,x,(x.length:Int),y,(y.length:Int),cA,cK,ar,true,op),by rw[eA,g];rfl,⟨rfl,rfl,h3,h4,h5,h6⟩,rfl,rfl,rfl,rfl,rfl⟩
 ·have hw:zA (ro-(y.length:Int))=ro-(y.length:Int):=zO (by omega) (by omega);by_cases hf:(b.length:Int)>ro-(y.length:Int)
  ·refine .inl ⟨hf,?_⟩;show(bif decide ((b.length:Int)>zA (ro-(y.length:Int))) then _ else _)=_;rw[hw,aa hf];rfl
  ·right;have eA:yk k (ro,x,(x.length:Int),y,(y.length:Int),cA,cK,ar,false,op) 1 b=(la k (ro,x,(x.length:Int),y,(y.length:Int),cA,cK,ar,false,op)).bind fun x3=>bif x3.1 then some (11,x3.2) else bif zL (x3.2.2.2.2.1.length+b.length) 1 then some (0,x3.2.1,x3.2.2.1,x3.2.2.2.1,(x3.2.2.2.2.1++b),x3.2.2.2.2.2) else none:=by
    show(bif decide ((b.length:Int)>zA (ro-(y.length:Int))) then _ else _)=_;rw[hw,ab hf];rfl
   rcases L6 (k:=k) (ro:=ro) (sx:=x.length) (sy:=y.length) (cA:=cA) (cK:=cK) (op:=op) (x:=x) (y:=y) (ar:=ar) ⟨by omega,by omega⟩ ⟨by omega,by omega⟩ (by omega) (by omega) h6 with g|⟨ha,a,c,a1,a2,c1,c2,g⟩
   ·right;refine⟨by show(b.length:Int)≤ro-(y.length:Int);omega,(ro,x,(x.length:Int),y++b,(y.length:Int),cA,cK,ar,false,zA (op+1)),?_,?_⟩
    ·rw[eA,g,ae];dsimp only;rw[ak,qI (by omega) (by omega)];rfl
    ·have eS:vg k (ro,x,(x.length:Int),y++b,(y.length:Int),cA,cK,ar,false,zA (op+1))=(la k (ro,x,(x.length:Int),y++b,(y.length:Int),cA,cK,ar,false,zA (op+1))).bind fun x1=>bif x1.1 then some (11,x1.2) else some (0,x1.2.1,x1.2.2.1,(x1.2.2.1.length:Int),x1.2.2.2.2.1,(x1.2.2.2.2.1.length:Int),x1.2.2.2.2.2.2):=rfl
     have hl:(y++b).length=y.length+b.length:=List.length_append;rcases L6 (k:=k) (ro:=ro) (sx:=x.length) (sy:=y.length) (cA:=cA) (cK:=cK) (op:=zA (op+1)) (x:=x) (y:=y++b) (ar:=ar) ⟨by omega,by omega⟩ ⟨by omega,by omega⟩ (by omega) (by omega) h6 with g'|⟨ha,a,c,a1,a2,c1,c2,g'⟩
     ·refine .inl ⟨(ro,x,(x.length:Int),y++b,((y++b).length:Int),cA,cK,ar,false,zA (zA (op+1)+1)),by rw[eS,g'];rfl,⟨rfl,rfl,h3,h4,?_,h6⟩,rfl,rfl,rfl,rfl,rfl⟩;show((y++b).length:Int)≤ro;omega
     ·have ea:a=x.length:=by omega
      subst ea;have e1:(y++b).take c=y++b.take (c-y.length):=by rw[List.take_append,List.take_of_length_le (show y.length≤c by omega)]
      refine .inr ⟨ha,(ro,x,(x.length:Int),y++b.take (c-y.length),(c:Int),cA,cK,ar,true,zA (op+1)),c-y.length,by rw[eS,g',e1,List.take_length];rfl,by omega,⟨rfl,?_,h3,h4,?_,h6⟩,rfl,rfl,rfl,rfl,rfl⟩
      ·show(c:Int)=((y++b.take (c-y.length)).length:Int);rw[List.length_append,List.length_take];omega
      ·show((y++b.take (c-y.length)).length:Int)≤ro;rw[List.length_append,List.length_take];omega
   ·left;have ea:a=x.length:=by omega
    have ec:c=y.length:=by omega
    subst ea ec;rw[List.take_length,List.take_length] at g;exact⟨ha,(ro,x,(x.length:Int),y,(y.length:Int),cA,cK,ar,true,op),by rw[eA,g];rfl,⟨rfl,rfl,h3,h4,h5,h6⟩,rfl,rfl,rfl,rfl,rfl⟩
def vQ9 {k:Nat}{D:vX}(h:pF D)(hu:ld D=false){i:Int}(hi:i=0∨i=1):
  (∃D',QS k D i=some (0,D')∧nC D D' i [] false)∨(jA D=true∧∃D',QS k D i=some (11,D')∧nC D D' i (vA D i) true):=by
 obtain⟨ro,x,sx,y,sy,cA,cK,ar,dn,op⟩:=D;obtain⟨h1,h2,h3,h4,h5,h6⟩:=h;dsimp only at h1 h2 h3 h4 h5 h6;have hu:dn=false:=hu;subst h1 h2 hu;rcases L6 (k:=k) (ro:=ro) (sx:=x.length) (sy:=y.length) (cA:=cA) (cK:=cK) (op:=op) (x:=x) (y:=y) (ar:=ar) ⟨by omega,by omega⟩ ⟨by omega,by omega⟩ (by omega) (by omega) h6 with g|⟨ha,a,c,a1,a2,c1,c2,g⟩
 ·left;rcases hi with rfl|rfl
  ·refine⟨(ro,[],0,y,(y.length:Int),cA,cK,ar,false,zA (op+1)),?_,⟨rfl,rfl,h3,by show(0:Int)≤ro;omega,h5,h6⟩,rfl,rfl,rfl,rfl,rfl⟩;show(la k (ro,x,(x.length:Int),y,(y.length:Int),cA,cK,ar,false,op)).bind _=_;rw[g];rfl
  ·refine⟨(ro,x,(x.length:Int),[],0,cA,cK,ar,false,zA (op+1)),?_,⟨rfl,rfl,h3,h4,by show(0:Int)≤ro;omega,h6⟩,rfl,rfl,rfl,rfl,rfl⟩;show(la k (ro,x,(x.length:Int),y,(y.length:Int),cA,cK,ar,false,op)).bind _=_;rw[g];rfl
 ·right;have ea:a=x.length:=by omega
  have ec:c=y.length:=by omega
  subst ea ec;rw[List.take_length,List.take_length] at g;refine⟨ha,(ro,x,(x.length:Int),y,(y.length:Int),cA,cK,ar,true,op),?_,⟨rfl,rfl,h3,h4,h5,h6⟩,rfl,?_,?_,rfl,rfl⟩
  ·rcases hi with rfl|rfl
   ·show(la k (ro,x,(x.length:Int),y,(y.length:Int),cA,cK,ar,false,op)).bind _=_;rw[g];rfl
   ·show(la k (ro,x,(x.length:Int),y,(y.length:Int),cA,cK,ar,false,op)).bind _=_;rw[g];rfl
  ·rcases hi with rfl|rfl<;>rfl
  ·rcases hi with rfl|rfl<;>rfl
def nC.trans {D D1 D2 i c d p q}(h:nC D D1 i c p)(g:nC D1 D2 i d q):nC D D2 i d q:=
 ⟨g.clean,g.room.trans h.room,g.it,g.oth.trans h.oth,g.dn,g.ar.trans h.ar⟩
inductive Cv (D:vX) (i:Int) (R:AC):Int→vX→Prop
 |full (h:(R.length:Int)>D.1):Cv D i R 10 D
 |ok {D':vX} (h:nC D D' i R false):Cv D i R 0 D'
 |none {D':vX} (ha:jA D=true) (h:nC D D' i (vA D i) true):Cv D i R 11 D'
 |torn {D':vX} {j:Nat} (ha:jA D=true) (hj:j≤R.length) (h:nC D D' i (R.take j) true):Cv D i R 11 D'
def vV7 {k:Nat}(hk:9≤k){D:vX}(h:pF D)(hu:ld D=false){i:Int}(hi:i=0∨i=1){g:Int}(hg:1≤g∧g≤4611686018427387904){b:AC}(hb:b.length≤50000):
  ∃e D',L7 k D i g b=some (e,D')∧Cv D i (wI (yB g++b)) e D':=by
 have hlen:(wI (yB g++b)).length=b.length+10:=by rw[uw,List.length_append];show 8+b.length+2=_;omega
 have nZ:=h.room;unfold L7;rw[JO hk [g] (by simp) (by simp;omega),ae,show yM [g]=yB g by simp[yM]];rw[qI (by show(8+b.length)*1≤_;omega) (by show 8+b.length≤_;omega),ag,yLk,if_pos (by rw[List.length_append];show 8+b.length≤_;omega),ae];dsimp only;rw[aA,ak,ab (by omega),ak];rw[show ZL k D=some D.1 from rfl,ae];by_cases hf:((wI (yB g++b)).length:Int)>D.1
 ·rw[aa hf];exact⟨10,D,rfl,.full hf⟩
 rw[ab hf,ak];rcases vQ9 (k:=k) h hu hi with⟨D1,w1,w2⟩|⟨ha,D1,w1,w2⟩
 ·rw[w1,ae];dsimp only;rw[aa rfl,aA,ak];have hr:=w2.room;rcases yEt (k:=k) w2.clean w2.dn hi (b:=wI (yB g++b)) (by omega) with⟨p1,_⟩|⟨ha,D2,p1,p2⟩|⟨_,D2,p1,⟨D3,p2,p3⟩|⟨ha,D3,j,p2,p3,p4⟩⟩
  ·rw[w2.it,hr] at p1;have:(([]:AC).length:Int)=0:=rfl;omega
  ·rw[p1,ae];dsimp only;rw[ab (by decide)];rw[w2.it] at p2;exact⟨11,D2,rfl,.torn (j:=0) (w2.ar.symm.trans ha) (by omega) (by rw[List.take_zero];exact w2.trans p2)⟩
  ·rw[p1,ae];dsimp only;rw[aa rfl,aA,ak,p2,ae];rw[w2.it,List.nil_append] at p3;exact⟨0,D3,rfl,.ok (w2.trans p3)⟩
  ·rw[p1,ae];dsimp only;rw[aa rfl,aA,ak,p2,ae];rw[w2.it,List.nil_append] at p4;exact⟨11,D3,rfl,.torn (w2.ar.symm.trans ha) p3 (w2.trans p4)⟩
 ·rw[w1,ae];dsimp only;rw[ab (by decide)];exact⟨11,D1,rfl,.none ha w2⟩
inductive L8 (L:fS) (D:vX) (R:AC):Int→fS→vX→Prop
 |full (h:(R.length:Int)>D.1-((vA D L.1).length:Int)):L8 L D R 10 L D
 |ok {D':vX} (h:nC D D' L.1 (vA D L.1++R) false):L8 L D R 0 (L.1,L.2.1,zA (L.2.2.1+1),L.2.2.2) D'
 |torn {D':vX} {j:Nat} (ha:jA D=true) (hj:j≤R.length) (h:nC D D' L.1 (vA D L.1++R.take j) true):L8 L D R 11 L D'
def vEk {k:Nat}{D:vX}(h:pF D)(hu:ld D=false){L:fS}(hs:L.1=0∨L.1=1)(dm:L.2.2.2=false){b:AC}(hb:b.length≤60000):
  ∃e L' D',L9 k L D b=some (e,L',D')∧L8 L D (wI b) e L' D':=by
 have hlen:=uw b;unfold L9;rw[yLk,if_pos hb,ae,dm];dsimp only;rw[aA,ak,ak];rcases yEt (k:=k) h hu hs (b:=wI b) (by omega) with⟨p1,p2⟩|⟨ha,D2,p1,p2⟩|⟨_,D2,p1,⟨D3,p2,p3⟩|⟨ha,D3,j,p2,p3,p4⟩⟩
 ·rw[p2];exact⟨10,L,D,rfl,.full p1⟩
 ·rw[p1];exact⟨11,L,D2,rfl,.torn (j:=0) ha (by omega) (by rw[List.take_zero,List.append_nil];exact p2)⟩
 ·rw[p1];refine⟨0,(L.1,L.2.1,zA (L.2.2.1+1),L.2.2.2),D3,?_,.ok p3⟩;show(vg k D2).bind _=_;rw[p2,dm];rfl
 ·rw[p1];refine⟨11,L,D3,?_,.torn ha p3 p4⟩;show(vg k D2).bind _=_;rw[p2];rfl
def ZM {k:Nat}(hk:9≤k){D:vX}(h:pF D)(hu:ld D=false){L:fS}(hs:L.1=0∨L.1=1)(hg:1≤L.2.1∧L.2.1<4611686018427387904){b:AC}(hb:b.length≤50000):
  ∃e D',vh k L D b=some (e,(if e=0 then(1-L.1,L.2.1+1,0,false) else L),D')∧Cv D (1-L.1) (wI (yB (L.2.1+1)++b)) e D':=by
 have e1:zA (L.2.1+1)=L.2.1+1:=zO (by omega) (by omega);have e2:zA (1-L.1)=1-L.1:=zO (by omega) (by omega);obtain⟨e,D',h1,h2⟩:=vV7 (k:=k) hk h hu (i:=1-L.1) (by omega) (g:=L.2.1+1) (by omega) hb;refine⟨e,D',?_,h2⟩;unfold vh;rw[e1,e2,h1,ae];dsimp only;by_cases he:e=0
 ·subst he;rfl
 ·rw[ab he,if_neg he];rfl
structure Cw (b:AC) (g:Int) (S:AC) (rows:EQ):Prop where
 is:∃t,b=jS ((yB g++S)::rows)++t∧Cut t
 gen:1≤g∧g≤4611686018427387904
 len:S.length≤50000
 rl:∀x∈rows,x.length≤60000
 rn:rows.length≤900
def yW3 {k:Nat}{D:vX}{i:Int}(hi:i=0∨i=1)(hl:(vA D i).length≤1000000):ZN k D i=some (vA D i):=by
 rcases hi with rfl|rfl
 ·have hl:D.2.1.length≤1000000:=hl;show(Cx k D.2.1).bind (fun x1=>some x1)=some D.2.1;unfold Cx;rw[qI (by omega) (by omega)];rfl
 ·have hl:D.2.2.2.1.length≤1000000:=hl;show(Cx k D.2.2.2.1).bind (fun x1=>some x1)=some D.2.2.2.1;unfold Cx;rw[qI (by omega) (by omega)];rfl
def Ma {k:Nat}(hk:1000≤k){D:vX}{i:Int}(hi:i=0∨i=1)(hl:(vA D i).length≤1000000){g:Int}{S:AC}{rows:EQ}(h:Cw (vA D i) g S rows):yl k D i=some (g,S,rows):=by
 obtain⟨⟨t,e,hc⟩,hg,hS,hr,hn⟩:=h;unfold yl;rw[yW3 hi hl,ae];have qn:(yB g++S).length=8+S.length:=by rw[List.length_append];rfl
 rw[e,List.length_append] at hl;rw [e, ySj (l := (yB g ++ S) :: rows) hc (by omega) (fun x hx=>by
  rcases List.mem_cons.1 hx with rfl|hx
  ·omega
  ·exact hr x hx) (by simp;omega) (by simp;omega) (by omega)]
 simp only[ae];have hb:zB 0 ((yB g++S)::rows).length=true:=wX (by omega) (by simp);have ht:List.take 8 (yB g++S)=yB g:=rfl;have hd:List.drop 8 (yB g++S)=S:=rfl;have hs:qR ((yB g++S)::rows) 1 (((yB g++S)::rows).length-1)=rows:=by
  unfold qR;show List.take _ rows=rows;exact List.take_of_length_le (by simp)
 rw[ab (by simp;omega),hb];simp only[ak,ag,List.getD_cons_zero];rw[ab (show¬((yB g++S).length:Int)<8 by omega),aa (show(8:Int)≤((yB g++S).length:Int) by omega),ht,Ww (by omega) (by omega),aa (show(1:Int)≤(((yB g++S)::rows).length:Int) by simp;omega),hd,hs];simp only[ak,ag,ae,List.getD_cons_zero];have fG:zB 0 [g].length=true:=rfl;rw[fG,ab (show¬g<1 by omega),ab (show¬g>4611686018427387904 by omega)];rfl
def ySx {k}(hk:1000≤k){D i}(hi:i=0∨i=1)(hl:(vA D i).length≤1000000)(h:Cut (vA D i)):yl k D i=some (0,[],[]):=by
 unfold yl;rw[yW3 hi hl,ae];have:=ySj (k:=k) h hl (l:=[]) (by simp) (by grind) (by simp) (by simp[jS]);rw[show jS []++vA D i=vA D i from rfl] at this;simp_all
structure Has (D:vX) (m g:Int) (S:AC) (rows:EQ):Prop where
 side:m=0∨m=1
 main:Cw (vA D m) g S rows
 other:Cut (vA D (1-m))∨∃g' S' ix,g'<g∧Cw (vA D (1-m)) g' S' ix
 x:(vA D 0).length≤1000000
 y:(vA D 1).length≤1000000
def yPg {k:Nat}(hk:1000≤k){D:vX}{m g:Int}{S:AC}{rows:EQ}(h:Has D m g S rows):Mb k D=some (g,m,S,rows,true):=by
 have hx:=h.x;have hy:=h.y;have hg:=h.main.gen;unfold Mb;rcases h.side with rfl|rfl
 ·rw[Ma hk (.inl rfl) hx h.main,ae];simp only[];rw[aa (show g>0 by omega),ag];rcases h.other with hc|⟨g',S',ix,bm,ho⟩
  ·rw[ySx hk (.inr rfl) hy hc,ae];simp only[];rw[ab (by omega)];rfl
  ·rw[Ma hk (.inr rfl) hy ho,ae];simp only[];rw[ab (by omega)];rfl
 ·rcases h.other with hc|⟨g',S',ix,bm,ho⟩
  ·rw[ySx hk (.inl rfl) hx hc,ae];simp only[];rw[ab (by omega),ak,Ma hk (.inr rfl) hy h.main,ae];simp only[];rw[aa (show g>0 by omega)];rfl
  ·have hg':=ho.gen;rw[Ma hk (.inl rfl) hx ho,ae];simp only[];rw[aa (show g'>0 by omega),ag,Ma hk (.inr rfl) hy h.main,ae];simp only[];rw[aa (show g>g' by omega)];rfl
def ZO {k}(hk:1000≤k){D m g S rows}(h:Has D m g S rows) f:QT k D f=some (.inl (S,rows,0,D,m,g,(rows.length:Int),true)):=by
 unfold QT;rw[yPg hk h];rfl
structure fI (k:Nat) (l:AC):Prop where
 n:l.length<k
 m:l.length≤100000
 w:pj l
def Cy x l b:qA (x::l)++b=qV x++(qA l++b):=by simp[qA]
def Md {k}(hk:9≤k){l}(h:fI k l){b}(hb:b.length≤1000000):ym k (qV l++b,false)=some (l,b,false):=by
 unfold ym;rw[Wx hk h.n h.m h.w b hb];rfl
def ZP {k}(hk:9≤k){l}(h:fI k l){n}(hn:l.length=n){b}(hb:b.length≤1000000):HE k (qV l++b,false) (n:Int)=some (l,b,false):=by
 unfold HE;rw[Md hk h hb];simp_all
def vE1 {k}(hk:9≤k){b}:∀l n r,(∀x∈l,fI k x)→l.length<n→(qA l++b).length≤1000000→r.length+l.length≤1000000→Me k n (l.length:Int) (qA l++b,false) r=some ((b,false),r++l)
 |[],n,r,_,hn,_,_=>by
  obtain⟨n,rfl⟩:∃m,n=m+1:=⟨n-1,by omega⟩;rw[List.append_nil];rfl
 |x::l,n,r,h,hn,hb,hr=>by
  obtain⟨n,rfl⟩:∃m,n=m+1:=⟨n-1,by omega⟩;rw[Cy,List.length_append] at hb;simp  at hn hr;have ih:=vE1 hk (b:=b) l n (r++[x]) (by grind) (by omega) (by omega) (by grind);rw[Cy];show QU k (Me k n) ((l.length+1:Nat):Int) (qV x++(qA l++b),false) r=_;unfold QU;rw[Md hk (by grind) (by omega)];rw[qI (by omega) (by omega),show zA (((l.length+1:Nat):Int)-1)=(l.length:Int) by rw[zO (by omega) (by omega)];omega];simp_all
def ZQ {k}(hk:9≤k){l}(h:∀x∈l,fI k x)(hn:l.length<k)(hm:l.length≤1000000){b}(hb:(qA l++b).length≤1000000):HF k (qA l++b,false) (l.length:Int)=some (l,b,false):=by
 unfold HF;rw[vE1 hk l k [] h hn hb (by simp_all)];rfl
def yIz {k}(hk:9≤k){b s0 r2}{b0 b3:Int×Int×Bool}:∀l n (r:List (Int×Int×Int)),(∀x∈l,fI k (wL x))→l.length<n→(qA (l.map wL)++b).length≤1000000→r.length+l.length≤1000000→
  HG k n s0 (l.length:Int) b0 (qA (l.map wL)++b,false) r2 b3 r=some (s0,b0,(b,false),r2,b3,r++l)
 |[],n,r,_,hn,_,_=>by
  obtain⟨n,rfl⟩:∃m,n=m+1:=⟨n-1,by omega⟩;rw[List.append_nil];rfl
 |x::l,n,r,h,hn,hb,hr=>by
  obtain⟨n,rfl⟩:∃m,n=m+1:=⟨n-1,by omega⟩;rw[List.map_cons,Cy,List.length_append] at hb;simp  at hn hr;have ih:=yIz hk (b:=b) (s0:=s0) (r2:=r2) (b0:=b0) (b3:=b3) l n (r++[x]) (by grind) (by omega) (by omega) (by grind);show QV k (HG k n) s0 ((l.length+1:Nat):Int) b0 (qV (wL x)++(qA (l.map wL)++b),false) r2 b3 r=_;unfold QV;rw[aa (by omega)];have hj:=ZP hk (h x (by simp)) (n:=3) rfl (b:=qA (l.map wL)++b) (by omega);rw[show((3:Nat):Int)=3 from rfl] at hj;rw[hj];rw[qI (by omega) (by omega),show zA (((l.length+1:Nat):Int)-1)=(l.length:Int) by rw[zO (by omega) (by omega)];omega];show HG k n s0 (l.length:Int) b0 (qA (l.map wL)++b,false) r2 b3 (r++[x])=_;simp_all
def yRs {k}(hk:9≤k){b s0}{b0 b2:Int×Int×Bool}{r3:List (Int×Int×Int)}{r4 r6 r8 r5 r7}:∀l n (r:List (Int×Int×Int×Int×Int×Int×Int)),(∀x∈l,fI k (vK x))→l.length<n→(qA (l.map vK)++b).length≤1000000→r.length+l.length≤1000000→
  HH k n s0 (l.length:Int) b0 (qA (l.map vK)++b,false) b2 r3 r4 r5 r6 r7 r8 r=some (s0,b0,(b,false),b2,r3,r4,r5,r6,r7,r8,r++l)
 |[],n,r,_,hn,_,_=>by
  obtain⟨n,rfl⟩:∃m,n=m+1:=⟨n-1,by omega⟩;rw[List.append_nil];rfl
 |x::l,n,r,h,hn,hb,hr=>by
  obtain⟨n,rfl⟩:∃m,n=m+1:=⟨n-1,by omega⟩;rw[List.map_cons,Cy,List.length_append] at hb;simp only[List.length_cons] at hn hr;have ih:=yRs hk (b:=b) (s0:=s0) (b0:=b0) (b2:=b2) (r3:=r3) (r4:=r4) (r5:=r5) (r6:=r6) (r7:=r7) (r8:=r8) l n (r++[x]) (by grind) (by omega) (by omega) (by grind);show QW k (HH k n) s0 ((l.length+1:Nat):Int) b0 (qV (vK x)++(qA (l.map vK)++b),false) b2 r3 r4 r5 r6 r7 r8 r=_;unfold QW;rw[aa (by omega)];have hj:=ZP hk (h x (by simp)) (n:=7) rfl (b:=qA (l.map vK)++b) (by omega);rw[show((7:Nat):Int)=7 from rfl] at hj;rw[hj];simp only[ae];rw[qI (by omega) (by omega),show zA (((l.length+1:Nat):Int)-1)=(l.length:Int) by rw[zO (by omega) (by omega)];omega];show HH k n s0 (l.length:Int) b0 (qA (l.map vK)++b,false) b2 r3 r4 r5 r6 r7 r8 (r++[x])=_;simp_all
def ZR s:qA (wF s)=qV [s.1,s.2.2.2.2.2.2.2.2.2.1,bif s.2.2.2.2.2.2.2.2.2.2 then 1 else 0,(s.2.1.length:Int),(s.2.2.1.length:Int),(s.2.2.2.1.length:Int),(s.2.2.2.2.1.length:Int),(s.2.2.2.2.2.2.1.length:Int),(s.2.2.2.2.2.2.2.1.length:Int)]++
  (qA (s.2.1.map wL)++(qA s.2.2.1++(qV s.2.2.2.1++(qA s.2.2.2.2.1++(qV s.2.2.2.2.2.1++(qA s.2.2.2.2.2.2.1++(qA (s.2.2.2.2.2.2.2.1.map vK)++(qV s.2.2.2.2.2.2.2.2.1++[])))))))):=by
 simp[wF,qA]
def vTh {k}(hk:1000≤k){s}(hf:wZ (wF s))(hg:∀x∈wF s,fI k x)(hb:(qA (wF s)).length≤1000000):Mh k (qA (wF s))=some (s,true):=by
 have Mi:=yS1 hk hf;have hn:=hf.n;have e:=ZR s;obtain⟨S,hS⟩:∃S,qA (wF s)=S:=⟨_,rfl⟩;rw[hS] at Mi hb e⊢;obtain⟨t,ac,bi,mu,po,pr,ho,pa,ids,to,ov⟩:=s;have aY : ∀ x, (x = [t, to, bif ov then 1 else 0, (ac.length : Int), (bi.length : Int), (mu.length : Int), (po.length : Int), (ho.length : Int), (pa.length : Int)] ∨ x ∈ ac.map wL ∨ x ∈ bi ∨ x = mu ∨ x ∈ po ∨ x = pr ∨ x ∈ ho ∨ x ∈ pa.map vK ∨ x = ids) → fI k x := fun x hx => hg x (by
  simp only[wF,List.mem_append,List.mem_singleton];rcases hx with h|h|h|h|h|h|h|h|h<;>simp[h])
 simp only[wF,List.length_append,List.length_cons,List.length_nil,List.length_map] at hn;dsimp only at e;have l1:=congrArg List.length e;simp only[List.length_append,fe] at l1;have k9:9≤k:=by omega
 unfold Mh;rw[e];have j9:=ZP k9 (aY _ (.inl rfl)) (n:=9) rfl (b:=qA (ac.map wL)++(qA bi++(qV mu++(qA po++(qV pr++(qA ho++(qA (pa.map vK)++(qV ids++[])))))))) (by simp only[List.length_append,fe];omega);rw[show((9:Nat):Int)=9 from rfl] at j9;rw[j9,←e];simp only[ae];have a0:=yIz k9 (s0:=S) (r2:=[t,to,bif ov then 1 else 0,(ac.length:Int),(bi.length:Int),(mu.length:Int),(po.length:Int),(ho.length:Int),(pa.length:Int)]) (b0:=(0,0,false)) (b3:=(t,to,decide ((bif ov then(1:Int) else 0)=1))) (b:=qA bi++(qV mu++(qA po++(qV pr++(qA ho++(qA (pa.map vK)++(qV ids++[]))))))) ac k [] (fun x hx=>aY _ (.inr (.inl (List.mem_map_of_mem hx)))) (by omega) (by simp only[List.length_append,fe];omega) (by simp;omega);refine(congrArg (fun z=>Option.bind z _) a0).trans ?_;simp only[ae];have q1:=ZQ k9 (l:=bi) (fun x hx=>aY _ (.inr (.inr (.inl hx)))) (by omega) (by omega) (b:=qV mu++(qA po++(qV pr++(qA ho++(qA (pa.map vK)++(qV ids++[])))))) (by simp only[List.length_append,fe];omega);refine(congrArg (fun z=>Option.bind z _) q1).trans ?_;simp only[ae];rw[Md k9 (aY mu (.inr (.inr (.inr (.inl rfl))))) (by simp only[List.length_append,fe];omega)];simp only[ae];have q2:=ZQ k9 (l:=po) (fun x hx=>aY _ (.inr (.inr (.inr (.inr (.inl hx)))))) (by omega) (by omega) (b:=qV pr++(qA ho++(qA (pa.map vK)++(qV ids++[])))) (by simp only[List.length_append,fe];omega);refine(congrArg (fun z=>Option.bind z _) q2).trans ?_;simp only[ae];rw[Md k9 (aY pr (.inr (.inr (.inr (.inr (.inr (.inl rfl))))))) (by simp only[List.length_append,fe];omega)];simp only[ae];have q3:=ZQ k9 (l:=ho) (fun x hx=>aY _ (.inr (.inr (.inr (.inr (.inr (.inr (.inl hx)))))))) (by omega) (by omega) (b:=qA (pa.map vK)++(qV ids++[])) (by simp only[List.length_append,fe];omega);refine(congrArg (fun z=>Option.bind z _) q3).trans ?_;simp only[ae];have p1:=yRs k9 (s0:=S) (b0:=(0,0,false)) (b2:=(t,to,decide ((bif ov then(1:Int) else 0)=1))) (r3:=[]++ac) (r4:=bi) (r5:=mu) (r6:=po) (r7:=pr) (r8:=ho) (b:=qV ids++[]) pa k [] (fun x hx=>aY _ (.inr (.inr (.inr (.inr (.inr (.inr (.inr (.inl (List.mem_map_of_mem hx)))))))))) (by omega) (by simp only[List.length_append,fe];omega) (by simp;omega);refine(congrArg (fun z=>Option.bind z _) p1).trans ?_;simp only[ae];rw[Md k9 (aY ids (.inr (.inr (.inr (.inr (.inr (.inr (.inr (.inr rfl))))))))) (by simp)];simp only[ae,ak,List.nil_append];have ZS:decide ((bif ov then(1:Int) else 0)=1)=ov:=by cases ov<;>rfl
 rw[ZS];refine(congrArg (fun z=>Option.bind z _) Mi).trans ?_;simp only[ae];unfold ZT;rw[show rR S S=true from by simp[rR]];rfl
structure my (r:qG) (s:zU):Prop where
 inv:qX r s
 ids:∀x∈s.ids,x<9223372036854775808
def QX {α:Type}{d x}{l:List α}(h:x∈l):∃i,i<l.length∧l.getD i d=x:=by
 obtain⟨i,hi,e⟩:=List.mem_iff_getElem.1 h;exact⟨i,hi,by simp_all⟩
def yKe {k:Nat}(hk:1000≤k){r:qG}(hr:vN r){s:zU}(h:my r s):∀x∈wF s.st,fI k x:=by
 have hi:=h.inv;have n6:=hi.bk.n6;have n1:=hi.bk.n1;have hm:=hi.waits.len;have h3:=hr.n3;have hb:wP s.B.1 s.B.2.1 s.B.2.2.1 s.B.2.2.2:=hi.bk;have hL:=hi.laid 0 (by omega);have hol:=hi.hol;have htk:=hi.tk;have DL:=hr.cl;have LA:=hi.tot;have hn:=hi.n;have an:=hi.waits.idl;have b1:=hb.bl;have b2:=hb.pl;have b3:=hb.ml;have few:∀{x:AC},x.length≤200→pj x→fI k x:=fun h1 h2=>⟨by omega,by omega,h2⟩
 have row:∀{l:EQ} {n:Nat} {x:AC},x∈l→l.length=n→(∀i,i<n→(l.getD i []).length≤200)→(∀i,i<n→∀j,j<(l.getD i []).length→-9223372036854775808≤(l.getD i []).getD j 0∧(l.getD i []).getD j 0<9223372036854775808)→fI k x:=by
  intro l n x hx hl h1 h2;obtain⟨i,hi,e⟩:=QX (d:=[]) hx;have g1:=h1 i (by omega);have g2:=h2 i (by omega);rw[e] at g1 g2;refine few g1 fun y hy=>?_
  obtain⟨j,hj,e⟩:=QX (d:=0) hy;rw[←e];exact g2 j hj
 have one:∀{x:AC},x.length≤200→(∀j,j<x.length→-9223372036854775808≤x.getD j 0∧x.getD j 0<9223372036854775808)→fI k x:=fun h1 h2=>few h1 fun y hy=>by
  obtain⟨j,hj,e⟩:=QX (d:=0) hy;rw[←e];exact h2 j hj
 intro x hx;simp only[wF,List.mem_append,List.mem_singleton,List.mem_map] at hx;rcases hx with((((((((rfl|⟨a,ha,rfl⟩)|hx)|rfl)|hx)|rfl)|hx)|⟨p,hp,rfl⟩)|rfl)
 ·refine few (by simp) fun y hy=>?_
  simp only[List.mem_cons,List.not_mem_nil,or_false] at hy;have q0:s.st.1=s.t:=rfl;have q1:s.st.2.2.2.2.2.2.2.2.2.1=s.to:=rfl;have q2:s.st.2.1.length=s.B.1.length:=rfl;have q3:s.st.2.2.1.length=s.B.2.1.length:=rfl;have q4:s.st.2.2.2.1.length=s.B.2.2.1.length:=rfl;have q5:s.st.2.2.2.2.1.length=s.B.2.2.2.length:=rfl;have q6:s.st.2.2.2.2.2.2.1.length=s.ho.length:=rfl;have q7:s.st.2.2.2.2.2.2.2.1.length=s.m.length:=rfl;rcases hy with rfl|rfl|rfl|rfl|rfl|rfl|rfl|rfl|rfl
  ·omega
  ·omega
  ·cases s.st.2.2.2.2.2.2.2.2.2.2<;>decide
  all_goals omega
 ·obtain⟨i,bJ,e⟩:=QX (d:=ad) ha;have:=pE.1 (hb.acct i bJ);have e:s.B.1.getD i ad=a:=e;have:=(pE (a:=a)).1 (by rw[←e];exact hb.acct i bJ);refine few (by simp[wL]) fun y hy=>?_
  simp only[wL,List.mem_cons,List.not_mem_nil,or_false] at hy;rcases hy with rfl|rfl|rfl<;>omega
 ·refine row (n:=s.B.1.length) hx b1 (fun i hi=>?_) fun i hi j hj=>?_
  ·have:=hb.br i hi;show(s.B.2.1.getD i []).length≤200;omega
  ·have hj:j<(s.B.2.1.getD i []).length:=hj;have g:=hb.bil i hi j (by have:=hb.br i hi;omega);unfold wV at g;simp only[bb,aW] at g;have g:cell s.B.2.1 i j≥-1∧cell s.B.2.1 i j≤2305843009213693952:=g;show-9223372036854775808≤cell s.B.2.1 i j∧cell s.B.2.1 i j<9223372036854775808;omega
 ·refine one (x:=s.B.2.2.1) (by omega) fun j hj=>?_
  have g:=hb.mul j (by omega);unfold wV at g;simp only[bb,aW] at g;omega
 ·refine row (n:=s.B.1.length) hx b2 (fun i hi=>?_) fun i hi j hj=>?_
  ·have:=hb.pr i hi;show(s.B.2.2.2.getD i []).length≤200;omega
  ·have hj:j<(s.B.2.2.2.getD i []).length:=hj;have g:=hb.net i hi j (by have:=hb.pr i hi;omega);unfold gW at g;simp only[bb,aW] at g;have g:cell s.B.2.2.2 i j>-72057594037927936∧cell s.B.2.2.2 i j<72057594037927936:=g;show-9223372036854775808≤cell s.B.2.2.2 i j∧cell s.B.2.2.2 i j<9223372036854775808;omega
 ·refine one (x:=s.pr) (by rw[hL.pl];omega) fun j hj=>?_
  have:=hL.price j (by rw[←hL.pl];exact hj);omega
 ·refine row (n:=s.B.1.length) hx hol (fun i bJ=>?_) fun i bJ j hj=>?_
  ·have:=(hi.laid i bJ).hl;show(s.ho.getD i []).length≤200;omega
  ·have hj:j<(s.ho.getD i []).length:=hj;have L:=hi.laid i bJ;have:=L.hold j (by rw[←L.hl];exact hj);show-9223372036854775808≤(s.ho.getD i []).getD j 0∧(s.ho.getD i []).getD j 0<9223372036854775808;omega
 ·have m1:=hi.waits.may p hp;have m2:=hi.waits.time p hp;have m3:=hi.waits.were p hp;have m4:=hi.waits.pos _ m3;have m5:=h.ids _ m3;have f1:=m1.f0;have f2:=m1.f1;have f3:=m1.t0;have f4:=m1.t1;have f5:=m1.a1;have f6:=m1.a2;have f7:=m1.c1;have f8:=m1.c3;refine few (by simp[vK]) fun y hy=>?_
  simp only[vK,List.mem_cons,List.not_mem_nil,or_false] at hy;rcases hy with rfl|rfl|rfl|rfl|rfl|rfl|rfl<;>omega
 ·exact few (x:=s.ids) (by omega) fun y hy=>⟨by have:=hi.waits.pos y hy;omega,h.ids y hy⟩
inductive ga (k:Nat) (r:qG):zU→EQ→zU→Prop
 |nil (s:zU):ga k r s [] s
 |cons {s t u:zU} {b:AC} {rows:EQ} {c:kX} {o:List qY} {e:Int} (h1:tc k b=some (c,0)) (h2:hZ k r s.st c=some (t.st,o,e)) (g:ga k r t rows u):ga k r s (b::rows) u
 |skip {s u:zU} {b:AC} {rows:EQ} {c:kX} {e:Int} (h1:tc k b=some (c,e)) (he:e≠0) (g:ga k r s rows u):ga k r s (b::rows) u
def ga.app {k:Nat}{r:qG}{s t u:zU}{a b:EQ}(g:ga k r s a t)(h:ga k r t b u):ga k r s (a++b) u:=by
 induction g with
 |nil s=>exact h
 |cons a b _ ih=>exact .cons a b (ih h)
 |skip a b _ ih=>exact .skip a b (ih h)
def ga.snocE {k:Nat}{r:qG}{s t u:zU}{b:AC}{rows:EQ}{c:kX}{o:List qY}{e:Int}(g:ga k r s rows t)(h1:tc k b=some (c,0))(h2:hZ k r t.st c=some (u.st,o,e)):ga k r s (rows++[b]) u:=g.app (.cons h1 h2 (.nil _))
def ga.snoc {k:Nat}{r:qG}{s t u:zU}{b:AC}{rows:EQ}{c:kX}{o:List qY}(g:ga k r s rows t)(h1:tc k b=some (c,0))(h2:hZ k r t.st c=some (u.st,o,0)):ga k r s (rows++[b]) u:=g.snocE h1 h2
def ZU {k:Nat}{r:qG}{ev:Int}{th:Bool}{rows:EQ}{b0}{x y:AC}{L:fS}{u:zU}:∀(m n i:Nat) (s:zU),i+m=rows.length→m<n→rows.length≤1000000→ga k r s (rows.drop i) u→
  yn k n ev th rows (rows.length:Int) (i:Int) b0 x y r L s.st=some (ev,th,b0,x,y,r,L,u.st)
 |0,n,i,s,h1,h2,_,g=>by
  obtain⟨n,rfl⟩:∃m,n=m+1:=⟨n-1,by omega⟩;rw[List.drop_of_length_le (by omega)] at g;cases g;show yo k _ ev th rows (rows.length:Int) (i:Int) b0 x y r L u.st=_;unfold yo;rw[ab (by omega)];rfl
 |m+1,n,i,s,h1,h2,h3,g=>by
  obtain⟨n,rfl⟩:∃m,n=m+1:=⟨n-1,by omega⟩;have hi:i<rows.length:=by omega
  have ed:rows.drop i=rows.getD i []::rows.drop (i+1):=by rw[List.drop_eq_getElem_cons hi,List.getD_eq_getElem?_getD,List.getElem?_eq_getElem hi];rfl
  rw[ed] at g;cases g with
  |@skip _ _ _ _ c e g1 he g3=>
   have ih:=ZU (ev:=ev) (th:=th) (b0:=b0) (x:=x) (y:=y) (L:=L) m n (i+1) s (by omega) (by omega) h3 g3;show yo k (yn k n) ev th rows (rows.length:Int) (i:Int) b0 x y r L s.st=_;unfold yo;rw[aa (show(i:Int)<rows.length by omega),wX (by omega) (by omega),ao,g1];simp only[ag,ae];rw[ab he,qD hi (by omega)];exact ih
  |@cons _ t _ _ _ c o e g1 g2 g3=>
  have ih:=ZU (ev:=ev) (th:=th) (b0:=b0) (x:=x) (y:=y) (L:=L) m n (i+1) t (by omega) (by omega) h3 g3;show yo k (yn k n) ev th rows (rows.length:Int) (i:Int) b0 x y r L s.st=_;unfold yo;rw[aa (show(i:Int)<rows.length by omega),wX (by omega) (by omega),ao,g1];simp only[ag,ae,decide_true];rw[g2];simp only[ae];rw[qD hi (by omega)];exact ih
def vJ1 {k:Nat}(hk:1000≤k){r:qG}(hr:vN r)(cT:nD k r=some true)(dm:qX r (eC r))(kF:rp k r=some (eC r).st){ev:Int}(aN:1≤ev∧ev≤1000)
  {D:vX} {m g:Int} {s0 s:zU} {rows:EQ} (h0:my r s0) (hD:Has D m g (qA (wF s0.st)) rows) (hkp:ga k r s0 rows s):
  fx k r D ev=(mn k s.st).bind fun b=>(vh k (m,g,(rows.length:Int),true) D b).bind fun x=>bif !(decide (x.1=0)) then some (.inr (x.1,x.2.2)) else some (.inl (0,x.2.2,jE r s ev,x.2.1)):=by
 obtain⟨b0,F0,_,_⟩:=ZG hk hr dm;obtain⟨b1,_,fG,qn⟩:=ZG hk hr h0.inv;obtain⟨l,el,l1,l2⟩:=ZF hr h0.inv;have ZV:=h0.inv.waits.idl;have hrn:=hD.main.rn;have hf:wZ (wF s0.st):=by
  rw[el];refine⟨by rw[List.length_append];simp;omega,fun x hx=>?_⟩;rcases List.mem_append.1 hx with hx|hx
  ·have:=l2 x hx;omega
  ·rw[List.mem_singleton.1 hx];omega
 have kA:=vTh hk hf (yKe hk hr h0) (by rw[fG] at qn;omega);have his:=Zy hk hr h0.inv;unfold fx;rw[cT];simp only[ae,aA,ak];rw[ab (show¬ev<1 by omega),ab (show¬ev>1000 by omega)];simp only[ak];rw[yPg hk hD];simp only[ae];rw[kF];simp only[ae];rw[F0];simp only[ae];rw[ZO hk hD];simp only[ae,decide_true,aA,ak];rw[kA];simp only[ae,aA,ak];rw[his];simp only[ae,aA,ak];have kY:=ZU (k:=k) (r:=r) (ev:=ev) (th:=true) (rows:=rows) (b0:=(D.1,D.2.2.1,D.2.2.2.2)) (x:=D.2.1) (y:=D.2.2.2.1) (L:=(m,g,(rows.length:Int),true)) rows.length k 0 s0 (by omega) (by omega) (by omega) (by simpa using hkp);refine(congrArg (fun z=>Option.bind z _) kY).trans ?_;rfl
def jQ (s:zU):AC:=qA (wF s.st)
def Cz {k}(hk:1000≤k){r}(hr:vN r){s}(h:qX r s):mn k s.st=some (jQ s)∧(jQ s).length≤7000:=by
 obtain⟨b,h1,h2,h3⟩:=ZG hk hr h;subst h2;exact⟨h1,h3⟩
structure tj (k:Nat) (r:qG) (N:Nat) (s s0:zU) (rows:EQ) (g:Int):Prop where
 i0:my r s0
 i:my r s
 kept:ga k r s0 rows s
 gen:1≤g∧g≤2305843009213693953+(N:Int)
 rl:∀x∈rows,x.length≤57
 rn:rows.length≤N
def Old (b:AC)(g:Int):Prop:=Cut b∨∃g' S' ix,g'<g∧Cw b g' S' ix
def gJ (k:Nat)(r:qG)(N:Nat)(s:zU)(D:vX):Prop:=
 pF D∧∃(m g:Int) (s0:zU) (rows:EQ) (t:AC),(m=0∨m=1)∧tj k r N s s0 rows g∧vA D m=jS ((yB g++jQ s0)::rows)++t∧Cut t∧Old (vA D (1-m)) g
structure gK (k:Nat) (r:qG) (N:Nat) (s:zU) (L:fS) (D:vX):Prop where
 clean:pF D
 up:ld D=false
 side:L.1=0∨L.1=1
 stale:L.2.2.2=false
 rows:0≤L.2.2.1∧L.2.2.1≤(N:Int)
 main:∃(s0:zU) (rows:EQ),tj k r N s s0 rows L.2.1∧vA D L.1=jS ((yB L.2.1++jQ s0)::rows)
 old:Old (vA D (1-L.1)) L.2.1
def tj.more {k r N M s s0 rows g}(h:tj k r N s s0 rows g)(hM:N≤M):tj k r M s s0 rows g:=
 ⟨h.i0,h.i,h.kept,by have:=h.gen;omega,h.rl,by have:=h.rn;omega⟩
def gK.more {k r N M s L D}(h:gK k r N s L D)(hM:N≤M):gK k r M s L D:=
 ⟨h.clean,h.up,h.side,h.stale,by have:=h.rows;omega,by obtain⟨s0,rows,a,b⟩:=h.main;exact⟨s0,rows,a.more hM,b⟩,h.old⟩
def gJ.more {k r N M s D}(h:gJ k r N s D)(hM:N≤M):gJ k r M s D:=by
 obtain⟨a,m,g,s0,rows,t,b,c,d⟩:=h;exact⟨a,m,g,s0,rows,t,b,c.more hM,d⟩
def vPf {D}(h:pF D):(vA D 0).length≤200000∧(vA D 1).length≤200000:=by
 have h1:=h.lx;have h2:=h.ly;have h3:=h.room;exact⟨by show D.2.1.length≤_;omega,by show D.2.2.2.1.length≤_;omega⟩
def tj.holds {k}(hk:1000≤k){r}(hr:vN r){N}(hN:N≤900){s s0 rows g}(h:tj k r N s s0 rows g){b t}(hb:b=jS ((yB g++jQ s0)::rows)++t)(ht:Cut t):Cw b g (jQ s0) rows:=
 ⟨by grind,by have:=h.gen;omega,by have:=(Cz hk hr h.i0.inv).2;omega,fun x hx=>by have:=h.rl x hx;omega,by have:=h.rn;omega⟩
def ZW {k:Nat}(hk:1000≤k){r:qG}(hr:vN r){N:Nat}(hN:N≤890){s s0:zU}{rows:EQ}{m g:Int}{t:AC}{D:vX}(hc:pF D)(hm:m=0∨m=1)(ha:tj k r N s s0 rows g)(hb:vA D m=jS ((yB g++jQ s0)::rows)++t)(ht:Cut t)(ho:Old (vA D (1-m)) g)
  {e:Int} {D':vX} (h:Cv D (1-m) (wI (yB (g+1)++jQ s)) e D'):
  (e=10∧D'=D∧D.1<100000)∨(e=0∧jA D'=jA D∧D'.1=D.1∧gK k r (N+1) s (1-m,g+1,0,false) D')∨(e=11∧jA D=true∧D'.1=D.1∧ld D'=true∧gJ k r (N+1) s D'):=by
 have me:1-(1-m)=m:=by omega
 have CA:=ha.gen;have hlen:=(Cz hk hr ha.i.inv).2;have new:tj k r (N+1) s s [] (g+1):=⟨ha.i,ha.i,.nil s,by omega,fun x hx=>absurd hx List.not_mem_nil,Nat.zero_le _⟩;have eR:wI (yB (g+1)++jQ s)=jS ((yB (g+1)++jQ s)::[]):=by simp[jS]
 have hold:Cw (vA D m) g (jQ s0) rows:=ha.holds hk hr (by omega) hb ht;cases h with
 |full hf=>exact .inl ⟨rfl,rfl,by rw[uw,List.length_append] at hf;have:(yB (g+1)).length=8:=rfl;omega⟩
 |ok w=>
  have w4:=w.oth;rw[me] at w4;refine .inr (.inl ⟨rfl,w.ar,w.room,w.clean,w.dn,by show 1-m=0∨1-m=1;omega,rfl,⟨Int.le_refl _,by show(0:Int)≤_;omega⟩,⟨s,[],new,by show vA D' (1-m)=_;rw[w.it,eR]⟩,.inr ⟨g,jQ s0,rows,by show g<g+1;omega,?_⟩⟩);show Cw (vA D' (1-(1-m))) g (jQ s0) rows;rw[me,w4];exact hold
 |none lf w=>
  have w4:=w.oth;rw[me] at w4;refine .inr (.inr ⟨rfl,lf,w.room,w.dn,w.clean,m,g,s0,rows,t,hm,ha.more (by omega),by rw[w4];exact hb,ht,?_⟩);rw[w.it];exact ho
 |@torn _ j lf hj w=>
  have w4:=w.oth;rw[me] at w4;refine .inr (.inr ⟨rfl,lf,w.room,w.dn,w.clean,?_⟩);have tP:=uw (yB (g+1)++jQ s);by_cases qg:j=(wI (yB (g+1)++jQ s)).length
  ·refine⟨1-m,g+1,s,[],[],by omega,new,by rw[w.it,qg,List.take_length,eR,List.append_nil],JS,.inr ⟨g,jQ s0,rows,by omega,?_⟩⟩;rw[me,w4];exact hold
  ·refine⟨m,g,s0,rows,t,hm,ha.more (by omega),by rw[w4];exact hb,ht,.inl ?_⟩;rw[w.it];exact vEj (by rw[List.length_append];show 8+(jQ s).length≤60000;omega) (by omega)
def vPo {l}(h:∀x∈l,x.length≤57):(jS l).length≤59*l.length:=by
 induction l with
 |nil=>simp[jS]
 |cons x l ih=>
  have h1:=ih (by grind);have h2:=h x (by simp);have e:jS (x::l)=wI x++jS l:=by rfl
  rw[e,List.length_append,uw,List.length_cons];omega
def yK5 {k:Nat}(hk:1000≤k){r:qG}(hr:vN r){N:Nat}(hN:N≤890){s u:zU}{L:fS}{D:vX}(h:gK k r N s L D){b:AC}(hb:b.length≤57){c:kX}{o:List qY}(h1:tc k b=some (c,0))(h2:hZ k r s.st c=some (u.st,o,0))(hu:my r u)
  {e:Int} {L':fS} {D':vX} (ha:L8 L D (wI b) e L' D'):
  (e=10∧L'=L∧D'=D∧D.1<100000)∨(e=0∧jA D'=jA D∧D'.1=D.1∧gK k r (N+1) u L' D')∨(e=11∧jA D=true∧D'.1=D.1∧ld D'=true∧L'=L∧(gJ k r (N+1) s D'∨gJ k r (N+1) u D')):=by
 obtain⟨s0,rows,hm,hs⟩:=h.main;have aR:=h.rows;have new:tj k r (N+1) u s0 (rows++[b]) L.2.1:=⟨hm.i0,hu,hm.kept.snoc h1 h2,by have:=hm.gen;omega,fun x hx=>by
  rcases List.mem_append.1 hx with hx|hx
  ·exact hm.rl x hx
  ·rw[List.mem_singleton.1 hx];exact hb,by have:=hm.rn;rw[List.length_append];simp;omega⟩
 have eR:jS ((yB L.2.1++jQ s0)::rows)++wI b=jS ((yB L.2.1++jQ s0)::(rows++[b])):=by simp[jS]
 have qn:=uw b;cases ha with
 |full hf=>
  have h3:=vPo hm.rl;have h4:=(Cz hk hr hm.i0.inv).2;have h5:=hm.rn;have e:jS ((yB L.2.1++jQ s0)::rows)=wI (yB L.2.1++jQ s0)++jS rows:=by simp[jS]
  have h6:(yB L.2.1).length=8:=rfl;have h7:=uw (yB L.2.1++jQ s0);rw[List.length_append] at h7;rw[hs,e,List.length_append] at hf;exact .inl ⟨rfl,rfl,rfl,by omega⟩
 |ok w=>
  have ZX:zA (L.2.2.1+1)=L.2.2.1+1:=zO (by omega) (by omega);refine .inr (.inl ⟨rfl,w.ar,w.room,w.clean,w.dn,h.side,h.stale,?_,⟨s0,rows++[b],new,?_⟩,?_⟩)
  ·show 0≤zA (L.2.2.1+1)∧zA (L.2.2.1+1)≤_;rw[ZX];omega
  ·show vA D' L.1=_;rw[w.it,hs,eR]
  ·show Old (vA D' (1-L.1)) L.2.1;rw[w.oth];exact h.old
 |@torn _ j lf hj w=>
  refine .inr (.inr ⟨rfl,lf,w.room,w.dn,rfl,?_⟩);have old:Old (vA D' (1-L.1)) L.2.1:=by rw[w.oth];exact h.old
  by_cases qg:j=(wI b).length
  ·right;exact⟨w.clean,L.1,L.2.1,s0,rows++[b],[],h.side,new,by rw[w.it,hs,qg,List.take_length,eR,List.append_nil],JS,old⟩
  ·left;exact⟨w.clean,L.1,L.2.1,s0,rows,(wI b).take j,h.side,hm.more (by omega),by rw[w.it,hs],vEj (by omega) (by omega),old⟩
def vTs {k:Nat}(hk:1000≤k){r:qG}(hr:vN r){ev:Int}{N:Nat}(hN:N≤880){s u:zU}{L:fS}{D:vX}(h:gK k r N s L D){b:AC}(hb:b.length≤57){c:kX}{o:List qY}(h1:tc k b=some (c,0))(h2:hZ k r s.st c=some (u.st,o,0))(hu:my r u):
  ∃e L' D',QY k (jE r s ev) L D b=some (e,jE r s ev,L',D')∧D'.1=D.1∧
   ((e=10∧D.1<100000∧jA D'=jA D∧gK k r (N+3) s L' D')∨(e=0∧jA D'=jA D∧gK k r (N+3) u L' D')∨(e=11∧jA D=true∧ld D'=true∧(gJ k r (N+3) s D'∨gJ k r (N+3) u D'))):=by
 obtain⟨e1,L1,D1,a1,a2⟩:=vEk (k:=k) h.clean h.up h.side h.stale (b:=b) (by omega);unfold QY;rw[a1,ae];dsimp only;rcases yK5 hk hr (by omega) h hb h1 h2 hu a2 with⟨rfl,rfl,rfl,AO⟩|⟨rfl,q1,q2,q3⟩|⟨rfl,q1,q2,q3,rfl,q4⟩
 ·rw[aa rfl,aA,ak];obtain⟨s0,rows,hm,hs⟩:=h.main;have CA:=hm.gen;have xG:=Cz hk hr hm.i.inv;rw[show mn k (rq (jE r s ev))=some (jQ s) from xG.1,ae];obtain⟨e2,D2,b1,b2⟩:=ZM (k:=k) (by omega) h.clean h.up h.side (by omega) (b:=jQ s) (by omega);rw[b1,ae];dsimp only;rcases ZW hk hr (by omega) h.clean h.side hm (by rw[List.append_nil];exact hs) JS h.old b2 with⟨rfl,rfl,_⟩|⟨rfl,q1,q2,q3⟩|⟨rfl,q1,q2,q3,q4⟩
  ·rw[ab (by decide)];exact⟨10,_,_,rfl,rfl,.inl ⟨rfl,AO,rfl,h.more (by omega)⟩⟩
  ·rw[aa rfl,if_pos rfl];simp only[aA,ak];obtain⟨e3,L3,D3,c1,c2⟩:=vEk (k:=k) q3.clean q3.up q3.side q3.stale (b:=b) (by omega);rw[c1,ae];rcases yK5 hk hr (by omega) q3 hb h1 h2 hu c2 with⟨rfl,rfl,rfl,_⟩|⟨rfl,p1,p2,p3⟩|⟨rfl,p1,p2,p3,rfl,p4⟩
   ·exact⟨10,_,_,rfl,q2,.inl ⟨rfl,AO,q1,q3.more (by omega)⟩⟩
   ·exact⟨0,_,_,rfl,p2.trans q2,.inr (.inl ⟨rfl,p1.trans q1,p3.more (by omega)⟩)⟩
   ·refine⟨11,_,_,rfl,p2.trans q2,.inr (.inr ⟨rfl,q1.symm.trans p1,p3,?_⟩)⟩;rcases p4 with p|p
    ·exact .inl (p.more (by omega))
    ·exact .inr (p.more (by omega))
  ·rw[ab (by decide)];exact⟨11,_,_,rfl,q2,.inr (.inr ⟨rfl,q1,q3,.inl (q4.more (by omega))⟩)⟩
 ·exact⟨0,L1,D1,rfl,q2,.inr (.inl ⟨rfl,q1,q3.more (by omega)⟩)⟩
 ·refine⟨11,_,D1,rfl,q2,.inr (.inr ⟨rfl,q1,q3,?_⟩)⟩;rcases q4 with p|p
  ·exact .inl (p.more (by omega))
  ·exact .inr (p.more (by omega))
def CB (r:qG)(s:zU)(ev:Int):xq:=(r.1,r.2.1,r.2.2.1,r.2.2.2.1,r.2.2.2.2,s.t,s.B.1,s.B.2.1,s.B.2.2.1,s.B.2.2.2,s.pr,s.ho,s.m,s.ids,s.to,s.ov,ev,true)
def ZY (x:Int):Prop:= -9223372036854775808≤x∧x<9223372036854775808
def yNn (k:Nat)(r:qG):Prop:=∀s,my r s→∀c:kX,lG k c.2=some true→pj (vS c.2)→∃t o e,hZ k r (zU.st s) c=some (zU.st t,o,e)∧my r t∧(e≠0→t=s)
inductive HI (k:Nat) (r:qG) (ev:Int) (N:Nat) (s:zU) (L:fS) (D:vX) (a:Int) (m:zC×Int):List qE→xq→fS→vX→Prop
 |none {o:List qE} (ha:ZI k r s a m s o):HI k r ev N s L D a m o (jE r s ev) L D
 |disk {L':fS} {D':vX} (hf:D.1<100000) (hr:gK k r (N+4) s L' D') (lf:jA D'=jA D):HI k r ev N s L D a m [(a,16,10,0,0,0,0,0)] (jE r s ev) L' D'
 |done {t:zU} {o:List qE} {L':fS} {D':vX} (hm:m.2=0) (ha:hZ k r s.st (a,m.1)=some (t.st,o,0)) (hr:gK k r (N+4) t L' D') (lf:jA D'=jA D):HI k r ev N s L D a m o (jE r t ev) L' D'
 |lost {t:zU} {o:List qE} {L':fS} {D':vX} (hm:m.2=0) (ha:hZ k r s.st (a,m.1)=some (t.st,o,0)) (lf:jA D=true) (hd:ld D'=true) (hs:gJ k r (N+4) s D'∨gJ k r (N+4) t D'):HI k r ev N s L D a m [] (CB r s ev) L' D'
 |late {t:zU} {o:List qE} {L':fS} {D':vX} (hm:m.2=0) (ha:hZ k r s.st (a,m.1)=some (t.st,o,0)) (lf:jA D=true) (hd:ld D'=true) (hs:gJ k r (N+4) t D'):HI k r ev N s L D a m o (CB r t ev) L' D'
def ZZ {k:Nat}(hk:1000≤k){r:qG}(hr:vN r)(hd:yNn k r)(hq:∀s c u o e,hZ k r (zU.st s) c=some (u,o,e)→c.2.1=9→u=s.st){ev:Int}{N:Nat}(hN:N≤870){s:zU}{L:fS}{D:vX}(h:gK k r N s L D)
  {a:Int} (haw:ZY a) {b:AC} (hb:b.length≤8*k) (bE:b.length≤140737488355328):
  ∃o G' L' D',Mj k (jE r s ev) L D a b=some (o,G',L',D')∧D'.1=D.1∧HI k r ev N s L D a (kQ b) o G' L' D':=by
 have hm:uv k b=some (kQ b):=yEq (by omega) hb bE;have yp:=fun h=>vIt (k:=k) (by omega) (b:=b) h
 generalize kQ b=m at hm yp;have hi:my r s:=by obtain⟨s0,rows,hM,_⟩:=h.main;exact hM.i
 unfold Mj;rw[show lg k (jE r s ev) L D=some (false,jE r s ev,L,D) from rfl];simp only[ae,ak];rw[hm];simp only[ae];by_cases h0:m.2=0
 case neg=>
  rw[ab h0];exact⟨_,_,L,D,rfl,rfl,.none (.inl ⟨h0,rfl,rfl⟩)⟩
 obtain⟨f1,f2⟩:=yp h0;rw[aa h0];simp only[aA,ak];obtain⟨t,o,e,h1,h2,h3⟩:=hd s hi (a,m.1) f1 f2;have e1:yR (jE r s ev)=r:=rfl;have e2:rq (jE r s ev)=s.st:=rfl;rw[e1,e2,h1];simp only[ae];by_cases he:e=0
 case neg=>
  rw[ab he];exact⟨_,_,L,D,rfl,rfl,.none (.inr ⟨h0,_,_,_,h1,.inl ⟨he,rfl,rfl⟩⟩)⟩
 subst he;rw[show decide ((0:Int)=0)=true from rfl];simp only[aA,ak];by_cases h9:m.1.1=9
 ·rw[aa h9];have eq:=hq _ _ _ _ _ h1 h9;exact⟨o,_,L,D,rfl,rfl,.none (.inr ⟨h0,_,_,_,h1,.inr ⟨rfl,eq,rfl⟩⟩)⟩
 rw[ab h9];simp only[ak];obtain⟨c,n9,cN,dI⟩:=vQd hk (w:=a) f1 haw f2;rw[n9];simp only[ae];obtain⟨e',L1,D1,k1,k2,k3⟩:=vTs hk hr (ev:=ev) (by omega) h dI cN h1 h2;rw[k1];simp only[ae];rcases k3 with⟨rfl,qf,q1,q2⟩|⟨rfl,q1,q2⟩|⟨rfl,q1,q2,q3⟩
 ·rw[show decide ((10:Int)=0)=false from rfl,show decide ((10:Int)=10)=true from rfl];exact⟨_,_,L1,D1,rfl,k2,.disk qf (q2.more (by omega)) q1⟩
 ·simp only[decide_true,ag];show∃o G' L' D',(QZ k L1 D1).bind _=_∧_;rw[show QZ k L1 D1=some (L1.2.2.1,L1,D1) from rfl];simp only[ae];cases decide (L1.2.2.1≥(jE r s ev).2.2.2.2.2.2.2.2.2.2.2.2.2.2.2.2.1) with
  |false=>exact⟨o,jE r t ev,L1,D1,rfl,k2,.done h0 h1 (q2.more (by omega)) q1⟩
  |true=>
   obtain⟨s0,rows,hM,hs⟩:=q2.main;have CA:=hM.gen;have xG:=Cz hk hr h2.inv;simp only[ag];rw[xG.1];simp only[ae];obtain⟨e3,D2,b1,b2⟩:=ZM (k:=k) (by omega) q2.clean q2.up q2.side (by omega) (b:=jQ t) (by omega);rw[b1];simp only[ae];rcases ZW hk hr (by omega) q2.clean q2.side hM (by rw[List.append_nil];exact hs) JS q2.old b2 with⟨rfl,rfl,pf⟩|⟨rfl,p1,p2,p3⟩|⟨rfl,p1,p2,p3,p4⟩
   ·exact⟨o,jE r t ev,L1,_,rfl,k2,.done h0 h1 (q2.more (by omega)) q1⟩
   ·exact⟨o,jE r t ev,_,D2,rfl,p2.trans k2,.done h0 h1 (p3.more (by omega)) (p1.trans q1)⟩
   ·exact⟨o,CB r t ev,_,D2,rfl,p2.trans k2,.late h0 h1 (q1.symm.trans p1) p3 (p4.more (by omega))⟩
 ·rw[show decide ((11:Int)=0)=false from rfl,show decide ((11:Int)=10)=false from rfl];exact ⟨[], CB r s ev, L1, D1, rfl, k2, .lost h0 h1 q1 q2 (by
   rcases q3 with p|p
   ·exact .inl (p.more (by omega))
   ·exact .inr (p.more (by omega)))⟩
inductive Q0 (k:Nat) (r:qG) (ev:Int) (N:Nat) (s:zU) (D:vX):((Int×vX×xq×fS)⊕(Int×vX))→Prop
 |up {L':fS} {D':vX} (hr:gK k r (N+1) s L' D') (lf:jA D'=jA D) (aO:D'.1=D.1):Q0 k r ev N s D (.inl (0,D',jE r s ev,L'))
 |disk (hf:D.1<100000):Q0 k r ev N s D (.inr (10,D))
 |lost {D':vX} (lf:jA D=true) (hd:ld D'=true) (hs:gJ k r (N+1) s D') (aO:D'.1=D.1):Q0 k r ev N s D (.inr (11,D'))
def vUt {k:Nat}(hk:1000≤k){r:qG}(hr:vN r)(cT:nD k r=some true)(dm:qX r (eC r))(kF:rp k r=some (eC r).st){ev:Int}(aN:1≤ev∧ev≤1000){N:Nat}(hN:N≤880){s:zU}{D:vX}(hu:ld D=false)(h:gJ k r N s D):
  ∃x,fx k r D ev=some x∧Q0 k r ev N s D x:=by
 obtain⟨hc,m,g,s0,rows,t,hm,ha,hb,ht,ho⟩:=h;have hl:=vPf hc;have hh:Has D m g (qA (wF s0.st)) rows:=⟨hm,ha.holds hk hr (by omega) hb ht,ho,by omega,by omega⟩;have CA:=ha.gen;have xG:=Cz hk hr ha.i.inv;rw[vJ1 hk hr cT dm kF aN ha.i0 hh ha.kept,xG.1,ae];obtain⟨e,D',b1,b2⟩:=ZM (k:=k) (by omega) hc hu (L:=(m,g,(rows.length:Int),true)) hm (by show 1≤g∧g<_;omega) (b:=jQ s) (by omega);rw[b1,ae];dsimp only;rcases ZW hk hr (by omega) hc hm ha hb ht ho b2 with⟨rfl,rfl,pf⟩|⟨rfl,p1,p2,p3⟩|⟨rfl,p1,p2,p3,p4⟩
 ·rw[ab (by decide)];exact⟨_,rfl,.disk pf⟩
 ·rw[aa rfl];exact⟨_,rfl,.up p3 p1 p2⟩
 ·rw[ab (by decide)];exact⟨_,rfl,.lost p1 p3 p4 p2⟩
end Go.Ab.Gi
namespace Go.Ab.Gi
open Go.Ab Go.RowKit
def Q1:vX:=(200000,[],0,[],0,0,0,false,false,0)
def iY (k:Nat)(r:qG):vX:=match fx k r Q1 1 with
 |some (.inl x)=>x.2.1
 |_=>Q1
structure vRg (k:Nat) (r:qG):Prop where
 new:Q2 k 200000=some Q1
 is:∀ev,1≤ev→ev≤1000→fx k r Q1 ev=some (.inl (0,iY k r,jE r (eC r) ev,(0,1,0,false)))
 calm:(!(iY k r).2.2.2.2.2.2.2.1&& !(iY k r).2.2.2.2.2.2.2.2.1&&decide ((iY k r).1=200000)&&decide ((iY k r).2.1.length≤20000)&&decide ((iY k r).2.2.2.1.length≤20000))=true
inductive PS (k:Nat) (r:qG) (ev:Int) (N:Nat):zU→xq→fS→vX→Bool→Prop
 |up {s:zU} {L:fS} {D:vX} (h:gK k r N s L D):PS k r ev N s (jE r s ev) L D true
 |down {s s':zU} {L:fS} {D:vX} (hd:ld D=true) (h:gJ k r N s D):PS k r ev N s (CB r s' ev) L D false
def PS.more {k:Nat}{r:qG}{ev:Int}{N M:Nat}{s:zU}{G:xq}{L:fS}{D:vX}{u:Bool}(h:PS k r ev N s G L D u)(hM:N≤M):PS k r ev M s G L D u:=by
 cases h with
 |up h=>exact .up (h.more hM)
 |down hd h=>exact .down hd (h.more hM)
def gJ.deck {k:Nat}{r:qG}{N:Nat}{s:zU}{D D':vX}(h:gJ k r N s D)(hc:pF D')(h0:D'.2.1=D.2.1)(h1:D'.2.2.2.1=D.2.2.2.1):gJ k r N s D':=by
 obtain⟨_,m,g,s0,rows,t,hm,ha,hb,ht,ho⟩:=h;have e:∀i,vA D' i=vA D i:=fun i=>by unfold vA;rw[h0,h1]
 exact⟨hc,m,g,s0,rows,t,hm,ha,by rw[e];exact hb,ht,by rw[e];exact ho⟩
def vV6 {k:Nat}{D:vX}(h:pF D):nE k D=some (D.1,D.2.1,D.2.2.1,D.2.2.2.1,D.2.2.2.2.1,D.2.2.2.2.2.1,D.2.2.2.2.2.2.1,false,false,0):=by
 unfold nE;have h1:=h.x;have h2:=h.y;rw[h1,h2,aa (show(0:Int)≤(D.2.1.length:Int) by omega),aa (show(D.2.1.length:Int)≤(D.2.1.length:Int) by omega),aa (show(0:Int)≤(D.2.2.2.1.length:Int) by omega),aa (show(D.2.2.2.1.length:Int)≤(D.2.2.2.1.length:Int) by omega)];simp only[Bool.and_self,ag,ao,Nat.sub_zero,List.take_length]
structure vBm (k:Nat) (a:oI):Prop where
 who:ZY a.2.1
 len:a.2.2.1.length≤8*k∧a.2.2.1.length≤140737488355328
 keep:a.2.2.2.2<9223372036854775808
def vTr {k:Nat}(hk:1000≤k){r:qG}(hr:vN r)(cT:nD k r=some true)(dm:qX r (eC r))(kF:rp k r=some (eC r).st){ev:Int}(aN:1≤ev∧ev≤1000){N:Nat}(hN:N≤880){s:zU}{D:vX}(hu:ld D=false)(lf:jA D=false)(h:gJ k r N s D):
  (∃D' L',fx k r D ev=some (.inl (0,D',jE r s ev,L'))∧gK k r (N+1) s L' D'∧jA D'=false∧D'.1=D.1)∨(fx k r D ev=some (.inr (10,D))∧D.1<100000):=by
 obtain⟨x,p1,p2⟩:=vUt hk hr cT dm kF aN hN hu h;cases p2 with
 |up q1 q2 q3=>exact .inl ⟨_,_,p1,q1,q2.trans lf,q3⟩
 |disk hf=>exact .inr ⟨p1,hf⟩
 |lost q1=>rw[lf] at q1;cases q1
def vRo n (i:Nat)(hi:i≤7):IntKind.wrap .u8 (shr .u64 (IntKind.wrap .u64 n) (IntKind.wrap .u64 (8*(i:Int))))=vH n i:=by
 rw[yEv n i hi];have e:∀x:Int,∀j:Nat,j≤56→shr .u64 x (j:Int)=x/2^j:=fun x j hj=>by
  unfold shr;rw[ao,Nat.min_eq_left (show j≤IntKind.bits .u64 from Nat.le_trans hj (by decide)),Int.fdiv_eq_ediv_of_nonneg _ (by grind)]
 have w:IntKind.wrap .u64 (8*(i:Int))=((8*i:Nat):Int):=by
  rw[Ew];omega
 rw[w,e _ _ (by omega),Ew,OF];have:i=0∨i=1∨i=2∨i=3∨i=4∨i=5∨i=6∨i=7:=by omega
 rcases this with rfl|rfl|rfl|rfl|rfl|rfl|rfl|rfl<;>(omega)<;>omega
def vMz {k l}(j:Nat)(hj:j<l.length)(hl:l.length≤1000000):∀c n,c<n→c≤8→∀r:AC,r.length+c≤100000000→Mk k n l (j:Int) (8*(c:Int)-8) r=some (l,(j:Int),r++(yB (l.getD j 0)).drop (8-c)):=by
 intro c
 induction c with
 |zero=>
  intro n h1 _ r hr;obtain⟨n,rfl⟩:∃m,n=m+1:=⟨n-1,by omega⟩;rw[show(yB (l.getD j 0)).drop (8-0)=[] from rfl,List.append_nil];rfl
 |succ c ih=>
  intro n h1 h2 r hr;obtain⟨n,rfl⟩:∃m,n=m+1:=⟨n-1,by omega⟩;have g:=ih n (by omega) (by omega) (r++[vH (l.getD j 0) c]) (by grind);show Q3 k (Mk k n) l _ _ r=_;unfold Q3;have e8:8*((c+1:Nat):Int)-8=8*(c:Int):=by omega
  have w:IntKind.wrap .u64 (8*(c:Int))=8*(c:Int):=by rw[Ew];omega
  rw[e8,aa (by omega),ag,wX (by omega) (by omega),ag];rw[show decide (IntKind.wrap .u64 (8*(c:Int))<0)=false from by grind,bF,ag,qI (by omega) (by omega),ag,ao];rw[vRo _ _ (by omega),show zA (8*(c:Int)-8)=8*(c:Int)-8 by rw[zO (by omega) (by omega)],g,List.append_assoc];have:c=0∨c=1∨c=2∨c=3∨c=4∨c=5∨c=6∨c=7:=by omega
  rcases this with rfl|rfl|rfl|rfl|rfl|rfl|rfl|rfl<;>rfl
def yGx {k}(hk:9≤k){l}(hl:l.length≤1000000)(pR:l.length<k):HJ k l=some (yM l):=by
 have all:∀(c n j:Nat),j+c=l.length→c<n→CC k n l (j:Int) (yM (l.take j))=some (yM l):=by
  intro c
  induction c with
  |zero=>
   intro n j h1 h2;obtain⟨n,rfl⟩:∃m,n=m+1:=⟨n-1,by omega⟩;show HK k (CC k n) l _ _=_;unfold HK;rw[ab (by omega),List.take_of_length_le (by omega)];rfl
  |succ c ih=>
   intro n j h1 h2;obtain⟨n,rfl⟩:∃m,n=m+1:=⟨n-1,by omega⟩;have hj:j<l.length:=by omega
   have g:=ih n (j+1) (by omega) (by omega);have hlen:(yM (l.take j)).length=8*j:=by rw[iR,List.length_take];omega
   have g1:=vMz (k:=k) j hj hl 8 k (by omega) (by omega) (yM (l.take j)) (by omega);rw[show(8*((8:Nat):Int)-8)=56 from rfl] at g1;show HK k (CC k n) l _ _=_;unfold HK;rw[aa (by omega),ag,g1,ae];rw[qD hj (by omega)];have e:yM (l.take (j+1))=yM (l.take j)++(yB (l.getD j 0)).drop (8-8):=by
    rw[←fc l j 0 hj];simp[yM]
   rw[e] at g;exact g
 unfold HJ;have:=all l.length k 0 (by omega) (by omega);have this:CC k k l 0 []=some (yM l):=this;rw[this];rfl
def CD {k}(hk:9≤k){l}(hl:l.length≤1000000)(pR:l.length<k):kj k l=some (qV l):=by
 unfold kj;rw[yGx hk (by simp) (by grind),ae,yGx hk hl pR,ae,qI (by simp[iR];omega) (by simp[iR];omega),ag];rfl
def Z0 {k}(hk:1000≤k){l}(h:wZ l):pG k l=some (qA l):=by
 have hn:=h.n;unfold pG;obtain ⟨s, h1, h2⟩ := yW (L := fun n i (s : AC) => HL k n l i s) (N := l.length) (fun s => s) (fun i s => s = qA (l.take i)) (fun n s _=>by
  show HM k (HL k n) l _ s=_;unfold HM;simp) (fun n i s hi hs=>by
  refine⟨s++qV (l.getD i []),?_,by rw[hs,yOp hi]⟩;show HM k (HL k n) l (i:Int) s=_;unfold HM;have hr:=h.r _ (fa (d:=[]) hi);have tY:s.length≤8000*1000:=by
   have:=JQ (l:=l.take i) fun x hx=>h.r x (by grind)
   grind
  rw[aa (by omega),ag,wX (by omega) (by omega),ag,ao,CD (by omega) (by omega) (by omega),ae,
   qI (by rw[fe];omega) (by rw[fe];omega),ag,qD (N:=l.length) hi (by omega)]) (n:=k) (s:=[]) (by omega) rfl
 simp_all
def Mm a b:qA (a++b)=qA a++qA b:=by simp[qA]
def Z1 {k}(hk:1000≤k){s:Eu}{b1:List (Int×Int×Int)×EQ×AC×EQ}(hl:b1.1.length≤900) r (hr:r.length≤100000000):vi k k 0 s b1 r=some (s,b1,r++qA (b1.1.map wL)):=by
 obtain ⟨t, h1, h2⟩ := yW (L := fun n i (t : AC) => vi k n i s b1 t) (N := b1.1.length) (fun t => (s, b1, t)) (fun i t => t = r ++ qA ((b1.1.take i).map wL)) (fun n t _=>by
  show HN k (vi k n) _ s b1 t=_;unfold HN;simp) (fun n i t hi ht=>by
  refine⟨t++qV (wL (b1.1.getD i (0,0,0))),?_,by rw[ht,List.append_assoc,←OG wL (0,0,0) hi,Mm];rfl⟩;show HN k (vi k n) (i:Int) s b1 t=_;unfold HN;have hlen:t.length≤100000000+8000*900:=by
   have:=JQ (l:=(b1.1.take i).map wL) fun x hx=>by
    obtain⟨y,_,rfl⟩:=List.mem_map.1 hx;show 3≤900
    decide
   grind
  rw[aa (by omega),ag,wX (by omega) (by omega),ag,ag,ag];have aR:=CD (k:=k) (by omega) (l:=wL (b1.1.getD i (0,0,0))) (by show 3≤1000000;decide) (by show 3<k;omega);refine(congrArg (fun z=>Option.bind z _) aR).trans ?_;have h32:(qV (wL (b1.1.getD i (0,0,0)))).length=32:=rfl;simp only[ae];rw[qI (by omega) (by omega),ag,qD (N:=b1.1.length) hi (by omega)]) (n:=k) (s:=r) (by omega) (by simp[qA])
 simp_all
def vVt {k}(hk:1000≤k){s:Eu}(hl:s.2.2.2.2.2.2.2.1.length≤900) r (hr:r.length≤100000000):vj k k 0 s r=some (s,r++qA (s.2.2.2.2.2.2.2.1.map vK)):=by
 obtain ⟨t, h1, h2⟩ := yW (L := fun n i (t : AC) => vj k n i s t) (N := s.2.2.2.2.2.2.2.1.length) (fun t => (s, t)) (fun i t => t = r ++ qA ((s.2.2.2.2.2.2.2.1.take i).map vK)) (fun n t _=>by
  show HO k (vj k n) _ s t=_;unfold HO;simp) (fun n i t hi ht=>by
  refine⟨t++qV (vK (s.2.2.2.2.2.2.2.1.getD i (0,0,0,0,0,0,0))),?_,by rw[ht,List.append_assoc,←OG vK (0,0,0,0,0,0,0) hi,Mm];rfl⟩;show HO k (vj k n) (i:Int) s t=_;unfold HO;have hlen:t.length≤100000000+8000*900:=by
   have:=JQ (l:=(s.2.2.2.2.2.2.2.1.take i).map vK) fun x hx=>by
    obtain⟨y,_,rfl⟩:=List.mem_map.1 hx;show 7≤900
    decide
   grind
  rw[aa (by omega),ag,wX (by omega) (by omega),ag];have aR:=CD (k:=k) (by omega) (l:=vK (s.2.2.2.2.2.2.2.1.getD i (0,0,0,0,0,0,0))) (by show 7≤1000000;decide) (by show 7<k;omega);refine(congrArg (fun z=>Option.bind z _) aR).trans ?_;have bS:(qV (vK (s.2.2.2.2.2.2.2.1.getD i (0,0,0,0,0,0,0)))).length=64:=rfl;simp only[ae];rw[qI (by omega) (by omega),ag,qD (N:=s.2.2.2.2.2.2.2.1.length) hi (by omega)]) (n:=k) (s:=r) (by omega) (by simp[qA])
 simp_all
def vC5 {k}(hk:1000≤k){s}(h:wZ (wF s)):HP k s=some (qA (wF s)):=by
  have hn:=h.n;have DS:=h.n;have hr:=h.r;have bh:=JQ hr;have eq:=ZR s;obtain⟨S,hS⟩:∃S,qA (wF s)=S:=⟨_,rfl⟩;rw[hS] at eq bh⊢;obtain⟨t,ac,bi,mu,po,pr,ho,pa,ids,to,ov⟩:=s;have aY : ∀ x, (x ∈ bi ∨ x = mu ∨ x ∈ po ∨ x = pr ∨ x ∈ ho ∨ x = ids) → x.length ≤ 900 := fun x hx => hr x (by
    simp only[wF,List.mem_append,List.mem_singleton];rcases hx with h|h|h|h|h|h<;>simp[h])
  simp only[wF,List.length_append,List.length_cons,List.length_nil,List.length_map] at hn;dsimp only at eq;have l1:=congrArg List.length eq;simp only[List.length_append] at l1;have fb:wZ bi:=⟨by omega,fun x hx=>aY x (.inl hx)⟩;have fp:wZ po:=⟨by omega,fun x hx=>aY x (.inr (.inr (.inl hx)))⟩;have fh:wZ ho:=⟨by omega,fun x hx=>aY x (.inr (.inr (.inr (.inr (.inl hx)))))⟩;have hmu:=aY mu (.inr (.inl rfl));have pq:=aY pr (.inr (.inr (.inr (.inl rfl))));have kG:=aY ids (.inr (.inr (.inr (.inr (.inr rfl)))));have go : ∀ (o : Int), ((kj k [t,to,o,(ac.length:Int),(bi.length:Int),(mu.length:Int),(po.length:Int),(ho.length:Int),(pa.length:Int)]).bind fun x0=>
      (vi k k 0 (t,ac,bi,mu,po,pr,ho,pa,ids,to,ov) (ac,bi,mu,po) x0).bind fun z=>
      (pG k z.2.1.2.1).bind fun x2=>
      bif zL (z.2.2.length + x2.length) 1 then ((kj k z.2.1.2.2.1).bind fun x3=>
       bif zL ((z.2.2 ++ x2).length + x3.length) 1 then ((pG k z.2.1.2.2.2).bind fun x4=>
        bif zL (((z.2.2 ++ x2) ++ x3).length + x4.length) 1 then ((kj k z.1.2.2.2.2.2.1).bind fun x5=>
         bif zL ((((z.2.2 ++ x2) ++ x3) ++ x4).length + x5.length) 1 then ((pG k z.1.2.2.2.2.2.2.1).bind fun x6=>
          bif zL (((((z.2.2 ++ x2) ++ x3) ++ x4) ++ x5).length + x6.length) 1 then ((vj k k 0 z.1 (((((z.2.2++x2)++x3)++x4)++x5)++x6)).bind fun z1=>
           (kj k z1.1.2.2.2.2.2.2.2.2.1).bind fun x8=>
           bif zL (z1.2.length+x8.length) 1 then some (z1.2++x8)
           else none)
          else none)
         else none)
        else none)
       else none)
      else none)=some (qV [t,to,o,(ac.length:Int),(bi.length:Int),(mu.length:Int),(po.length:Int),(ho.length:Int),(pa.length:Int)]++(qA (ac.map wL)++(qA bi++(qV mu++(qA po++(qV pr++(qA ho++(qA (pa.map vK)++(qV ids++[]))))))))):=fun o=>by
    have h9:(qV [t,to,o,(ac.length:Int),(bi.length:Int),(mu.length:Int),(po.length:Int),(ho.length:Int),(pa.length:Int)]).length=80:=rfl;have h9':(qV [t,to,bif ov then 1 else 0,(ac.length:Int),(bi.length:Int),(mu.length:Int),(po.length:Int),(ho.length:Int),(pa.length:Int)]).length=80:=rfl;rw[h9'] at l1;rw[CD (by omega) (by simp) (by simp;omega)];simp only[ae];rw[Z1 hk (by show ac.length≤900;omega) _ (by omega)];simp only[ae];rw[Z0 hk fb,ae,qI (by simp only[List.length_append];omega) (by simp only[List.length_append];omega),ag];rw[CD (by omega) (by omega) (by omega),ae,qI (by simp only[List.length_append];omega) (by simp only[List.length_append];omega),ag];rw[Z0 hk fp,ae,qI (by simp only[List.length_append];omega) (by simp only[List.length_append];omega),ag];rw[CD (by omega) (by omega) (by omega),ae,qI (by simp only[List.length_append];omega) (by simp only[List.length_append];omega),ag];rw[Z0 hk fh,ae,qI (by simp only[List.length_append];omega) (by simp only[List.length_append];omega),ag];rw[vVt hk (by show pa.length≤900;omega) _ (by simp only[List.length_append];omega)];simp only[ae];rw[CD (by omega) (by omega) (by omega),ae,qI (by simp only[List.length_append];omega) (by simp only[List.length_append];omega),ag];simp only[List.append_assoc,List.append_nil]
  rw[eq];unfold HP;cases ov with
  |false=>exact go 0
  |true=>exact go 1
def Mn {k}(hk:9≤k){l}(h:fI k l){b}(hb:b.length≤1000000):yq k (qV l++b,true)=some (l,b,true):=by
 have hl:=h.n;have hm:=h.m;have hlen:(qV l++b).length=8*l.length+8+b.length:=by rw[List.length_append,fe];omega
 have hn:Q4 k (qV l++b)=some (l,b,true):=by
  unfold Q4;rw[ab (by omega),ak,aa (by omega),ag];have h8:(yB (l.length:Int)).length=8:=rfl;have t1:List.take 8 (qV l++b)=yB (l.length:Int):=by
   rfl
  rw[t1,vBu hk _ h8,yJ9 (by omega) (by omega),ae,ab (by omega),ak];have wd:zA (Int.tdiv (zA (((qV l++b).length:Int)-8)) 8)=((l.length+b.length/8:Nat):Int):=by
   rw[zO (x:=((qV l++b).length:Int)-8) (by omega) (by omega),hlen];have:((8*l.length+8+b.length:Nat):Int)-8=((8*l.length+b.length:Nat):Int):=by omega
   rw[this];have:Int.tdiv ((8*l.length+b.length:Nat):Int) 8=(((8*l.length+b.length)/8:Nat):Int):=rfl;rw[this,zO (by omega) (by omega)];omega
  rw[wd,ab (by omega),ak];have we:zA (8+zA (8*(l.length:Int)))=((8+8*l.length:Nat):Int):=by
   rw[zO (x:=8*(l.length:Int)) (by omega) (by omega),zO (by omega) (by omega)];omega
  rw[we,aa (by omega),aa (by omega),Bool.and_self,ag,ao];have s1:qR (qV l++b) 8 (8+8*l.length-8)=yM l:=by
   unfold qR qV;rw[List.append_assoc,List.drop_append_of_le_length (by omega),List.drop_of_length_le (by omega),List.nil_append,List.take_append_of_le_length (by rw[iR];omega),List.take_of_length_le (by rw[iR];omega)]
  have d1:List.drop (8+8*l.length) (qV l++b)=b:=by
   rw[List.drop_append_of_le_length (by grind),List.drop_of_length_le (by grind),List.nil_append]
  rw[s1,yD3 hk (by rw[iR];omega) (by rw[iR];omega),Wv h.w,ae,d1];rfl
 unfold yq;rw[hn];rfl
def Z2 {k}(hk:9≤k){l}(h:fI k l){n}(hn:l.length=n){b}(hb:b.length≤1000000):HQ k (qV l++b,true) (n:Int)=some (l,b,true):=by
 unfold HQ;rw[Mn hk h hb];simp_all
def Z3 {k}(hk:9≤k){b l}(h:∀x∈l,fI k x)(hn:l.length<k)(hm:l.length≤1000000)(hb:(qA l++b).length≤1000000):HR k (qA l++b,true) (l.length:Int)=some (l,b,true):=by
 have all:∀(c n j:Nat),j+c=l.length→c<n→CE k n (l.length:Int) (j:Int) (qA (l.drop j)++b,true) (l.take j)=some ((b,true),l):=by
  intro c
  induction c with
  |zero=>
   intro n j h1 h2;obtain⟨n,rfl⟩:∃m,n=m+1:=⟨n-1,by omega⟩;show HS k (CE k n) _ _ _ _=_;unfold HS;rw[ab (by omega),List.take_of_length_le (by omega),List.drop_of_length_le (by omega)];rfl
  |succ c ih=>
   intro n j h1 h2;obtain⟨n,rfl⟩:∃m,n=m+1:=⟨n-1,by omega⟩;have hj:j<l.length:=by omega
   have g:=ih n (j+1) (by omega) (by omega);have ed:l.drop j=l.getD j []::l.drop (j+1):=by rw[List.drop_eq_getElem_cons hj,List.getD_eq_getElem?_getD,List.getElem?_eq_getElem hj];rfl
   have hle:(qA (l.drop (j+1))++b).length≤1000000:=by
    have e2:qA l=qA (l.take (j+1))++qA (l.drop (j+1)):=by rw[←Mm,List.take_append_drop]
    rw[e2] at hb;simp  at hb⊢;omega
   show HS k (CE k n) _ _ _ _=_;unfold HS;rw[aa (by omega),ed,Cy];rw[Mn hk (h _ (fa hj)) hle];simp only[ae];rw[qI (by rw[List.length_take];omega) (by rw[List.length_take];omega),ag,qD hj (by omega),fc l j [] hj];exact g
 unfold HR;have:=all l.length k 0 (by omega) hn;have this:CE k k (l.length:Int) 0 (qA l++b,true) []=some ((b,true),l):=this;rw[this];rfl
def vIe {k}(hk:9≤k){b s0 r2}{b0 b3:Int×Int×Bool}(h8:r2.length=9){l:List (Int×Int×Int)}(h3:r2.getD 3 0=(l.length:Int))(h:∀x∈l,fI k (wL x))(hn:l.length<k)(hm:l.length≤1000000)(hb:(qA (l.map wL)++b).length≤1000000):
  CF k k s0 0 b0 (qA (l.map wL)++b,true) r2 b3 []=some (s0,b0,(b,true),r2,b3,l):=by
 have all:∀(c n j:Nat),j+c=l.length→c<n→CF k n s0 (j:Int) b0 (qA ((l.drop j).map wL)++b,true) r2 b3 (l.take j)=some (s0,b0,(b,true),r2,b3,l):=by
  intro c
  induction c with
  |zero=>
   intro n j h1 h2;obtain⟨n,rfl⟩:∃m,n=m+1:=⟨n-1,by omega⟩;show HT k (CF k n) _ _ _ _ _ _ _=_;unfold HT;rw[wX (by omega) (by omega),h3,ab (by omega),List.take_of_length_le (by omega),List.drop_of_length_le (by omega)];rfl
  |succ c ih=>
   intro n j h1 h2;obtain⟨n,rfl⟩:∃m,n=m+1:=⟨n-1,by omega⟩;have hj:j<l.length:=by omega
   have g:=ih n (j+1) (by omega) (by omega);have ed:l.drop j=l.getD j (0,0,0)::l.drop (j+1):=by rw[List.drop_eq_getElem_cons hj,List.getD_eq_getElem?_getD,List.getElem?_eq_getElem hj];rfl
   have hle:(qA ((l.drop (j+1)).map wL)++b).length≤1000000:=by
    have e2:qA (l.map wL)=qA ((l.take (j+1)).map wL)++qA ((l.drop (j+1)).map wL):=by rw[←Mm,←List.map_append,List.take_append_drop]
    rw[e2] at hb;simp  at hb⊢;omega
   show HT k (CF k n) _ _ _ _ _ _ _=_;unfold HT;rw[wX (by omega) (by omega),h3,aa (by omega),ed,List.map_cons,Cy];have mY:=Z2 hk (h _ (fa (d:=(0,0,0)) hj)) (n:=3) rfl hle;rw[show((3:Nat):Int)=3 from rfl] at mY;rw[mY];rw[qI (by rw[List.length_take];omega) (by rw[List.length_take];omega),qD hj (by omega)];rw[←fc l j (0,0,0) hj] at g;exact g
 exact all l.length k 0 (by omega) hn
def vVc {k}(hk:9≤k){b s0 r2 r6 r8}{b0 b3:Int×Int×Bool}{r4:List (Int×Int×Int)}{r5 r7 r9}(h8:r2.length=9){l:List (Int×Int×Int×Int×Int×Int×Int)}(h3:r2.getD 8 0=(l.length:Int))(h:∀x∈l,fI k (vK x))(hn:l.length<k)(hm:l.length≤1000000)(hb:(qA (l.map vK)++b).length≤1000000):
  CG k k s0 0 b0 (qA (l.map vK)++b,true) r2 b3 r4 r5 r6 r7 r8 r9 []=some (s0,b0,(b,true),b3,r4,r5,r6,r7,r8,r9,l):=by
 have all:∀(c n j:Nat),j+c=l.length→c<n→CG k n s0 (j:Int) b0 (qA ((l.drop j).map vK)++b,true) r2 b3 r4 r5 r6 r7 r8 r9 (l.take j)=some (s0,b0,(b,true),b3,r4,r5,r6,r7,r8,r9,l):=by
  intro c
  induction c with
  |zero=>
   intro n j h1 h2;obtain⟨n,rfl⟩:∃m,n=m+1:=⟨n-1,by omega⟩;show HU k (CG k n) _ _ _ _ _ _ _ _ _ _ _ _ _=_;unfold HU;rw[wX (by omega) (by omega),h3,ab (by omega),List.take_of_length_le (by omega),List.drop_of_length_le (by omega)];rfl
  |succ c ih=>
   intro n j h1 h2;obtain⟨n,rfl⟩:∃m,n=m+1:=⟨n-1,by omega⟩;have hj:j<l.length:=by omega
   have g:=ih n (j+1) (by omega) (by omega);have ed:l.drop j=l.getD j (0,0,0,0,0,0,0)::l.drop (j+1):=by rw[List.drop_eq_getElem_cons hj,List.getD_eq_getElem?_getD,List.getElem?_eq_getElem hj];rfl
   have hle:(qA ((l.drop (j+1)).map vK)++b).length≤1000000:=by
    have e2:qA (l.map vK)=qA ((l.take (j+1)).map vK)++qA ((l.drop (j+1)).map vK):=by rw[←Mm,←List.map_append,List.take_append_drop]
    rw[e2] at hb;simp  at hb⊢;omega
   show HU k (CG k n) _ _ _ _ _ _ _ _ _ _ _ _ _=_;unfold HU;rw[wX (by omega) (by omega),h3,aa (by omega),ed,List.map_cons,Cy];have mY:=Z2 hk (h _ (fa (d:=(0,0,0,0,0,0,0)) hj)) (n:=7) rfl hle;rw[show((7:Nat):Int)=7 from rfl] at mY;rw[mY];rw[qI (by rw[List.length_take];omega) (by rw[List.length_take];omega),qD hj (by omega)];rw[←fc l j (0,0,0,0,0,0,0) hj] at g;exact g
 exact all l.length k 0 (by omega) hn
def vJr {k}(hk:1000≤k){s}(hf:wZ (wF s))(hg:∀x∈wF s,fI k x)(hb:(qA (wF s)).length≤1000000):Mo k (qA (wF s))=some (s,true):=by
 have Mi:=vC5 hk hf;have hn:=hf.n;have e:=ZR s;obtain⟨S,hS⟩:∃S,qA (wF s)=S:=⟨_,rfl⟩;rw[hS] at Mi hb e⊢;obtain⟨t,ac,bi,mu,po,pr,ho,pa,ids,to,ov⟩:=s;have aY : ∀ x, (x = [t, to, bif ov then 1 else 0, (ac.length : Int), (bi.length : Int), (mu.length : Int), (po.length : Int), (ho.length : Int), (pa.length : Int)] ∨ x ∈ ac.map wL ∨ x ∈ bi ∨ x = mu ∨ x ∈ po ∨ x = pr ∨ x ∈ ho ∨ x ∈ pa.map vK ∨ x = ids) → fI k x := fun x hx => hg x (by
  simp only[wF,List.mem_append,List.mem_singleton];rcases hx with h|h|h|h|h|h|h|h|h<;>simp[h])
 simp only[wF,List.length_append,List.length_cons,List.length_nil,List.length_map] at hn;dsimp only at e;have l1:=congrArg List.length e;simp only[List.length_append,fe] at l1;have k9:9≤k:=by omega
 unfold Mo;rw[e];have j9:=Z2 k9 (aY _ (.inl rfl)) (n:=9) rfl (b:=qA (ac.map wL)++(qA bi++(qV mu++(qA po++(qV pr++(qA ho++(qA (pa.map vK)++(qV ids++[])))))))) (by simp only[List.length_append,fe];omega);rw[show((9:Nat):Int)=9 from rfl] at j9;rw[j9,←e];simp only[ae];have a0:=vIe k9 (s0:=S) (r2:=[t,to,bif ov then 1 else 0,(ac.length:Int),(bi.length:Int),(mu.length:Int),(po.length:Int),(ho.length:Int),(pa.length:Int)]) (b0:=(0,0,false)) (b3:=(t,to,decide ((bif ov then(1:Int) else 0)=1))) (b:=qA bi++(qV mu++(qA po++(qV pr++(qA ho++(qA (pa.map vK)++(qV ids++[]))))))) rfl (l:=ac) rfl (fun x hx=>aY _ (.inr (.inl (List.mem_map_of_mem hx)))) (by omega) (by omega) (by simp only[List.length_append,fe];omega);refine(congrArg (fun z=>Option.bind z _) a0).trans ?_;simp only[ae];have q1:=Z3 k9 (l:=bi) (fun x hx=>aY _ (.inr (.inr (.inl hx)))) (by omega) (by omega) (b:=qV mu++(qA po++(qV pr++(qA ho++(qA (pa.map vK)++(qV ids++[])))))) (by simp only[List.length_append,fe];omega);refine(congrArg (fun z=>Option.bind z _) q1).trans ?_;simp only[ae];rw[Mn k9 (aY mu (.inr (.inr (.inr (.inl rfl))))) (by simp only[List.length_append,fe];omega)];simp only[ae];have q2:=Z3 k9 (l:=po) (fun x hx=>aY _ (.inr (.inr (.inr (.inr (.inl hx)))))) (by omega) (by omega) (b:=qV pr++(qA ho++(qA (pa.map vK)++(qV ids++[])))) (by simp only[List.length_append,fe];omega);refine(congrArg (fun z=>Option.bind z _) q2).trans ?_;simp only[ae];rw[Mn k9 (aY pr (.inr (.inr (.inr (.inr (.inr (.inl rfl))))))) (by simp only[List.length_append,fe];omega)];simp only[ae];have q3:=Z3 k9 (l:=ho) (fun x hx=>aY _ (.inr (.inr (.inr (.inr (.inr (.inr (.inl hx)))))))) (by omega) (by omega) (b:=qA (pa.map vK)++(qV ids++[])) (by simp only[List.length_append,fe];omega);refine(congrArg (fun z=>Option.bind z _) q3).trans ?_;simp only[ae];have p1:=vVc k9 (s0:=S) (b0:=(0,0,false)) (b3:=(t,to,decide ((bif ov then(1:Int) else 0)=1))) (r2:=[t,to,bif ov then 1 else 0,(ac.length:Int),(bi.length:Int),(mu.length:Int),(po.length:Int),(ho.length:Int),(pa.length:Int)]) (r4:=ac) (r5:=bi) (r6:=mu) (r7:=po) (r8:=pr) (r9:=ho) (b:=qV ids++[]) rfl (l:=pa) rfl (fun x hx=>aY _ (.inr (.inr (.inr (.inr (.inr (.inr (.inr (.inl (List.mem_map_of_mem hx)))))))))) (by omega) (by omega) (by simp only[List.length_append,fe];omega);refine(congrArg (fun z=>Option.bind z _) p1).trans ?_;simp only[ae];rw[Mn k9 (aY ids (.inr (.inr (.inr (.inr (.inr (.inr (.inr (.inr rfl))))))))) (by simp)];simp only[ae,aA,ak];have ZS:decide ((bif ov then(1:Int) else 0)=1)=ov:=by cases ov<;>rfl
 rw[ZS];rw[show decide ((([]:AC).length:Int)>0)=false from rfl];simp only[ak];refine(congrArg (fun z=>Option.bind z _) Mi).trans ?_;simp only[ae];rw[show rR S S=true from by simp[rR]];rfl
def Z4 {r}(hr:vN r){s}(h:qX r s)(t:zU):∃b,jP 1000 s.st t.st=some b:=by
  have hb:wP s.B.1 s.B.2.1 s.B.2.2.1 s.B.2.2.2:=h.bk;have gG:=h.bk.n6;have ma:=h.bk.n1;have hm:=h.waits.len;have hi:=h.waits.idl;have h3:=hr.n3;have hL:=h.laid 0 (by omega);have e1:=yN1 (k:=1000) (by decide) hb.toSized t.B.1 t.B.2.1 t.B.2.2.1 t.B.2.2.2;have e2:og 1000 s.pr t.pr=some (decide (s.pr=t.pr)):=EU (by rw[hL.pl];omega) (by rw[hL.pl];omega);have e3:ux 1000 s.ho t.ho=some (decide (s.ho=t.ho)):=by
    have hol:=h.hol;exact OY (by omega) (by omega) (fun i hi=>by
      have:=(h.laid i (by omega)).hl;omega)
  have e4:Cu 1000 s.m t.m=some (decide (s.m=t.m)):=yPk (by omega) (by omega);have e5:og 1000 s.ids t.ids=some (decide (s.ids=t.ids)):=EU (by omega) (by omega);have eU : jP 1000 s.st t.st = bif decide (s.t = t.t) then (bif decide (s.to = t.to) then (bif mO s.ov t.ov then ((EX 1000 s.B.1 s.B.2.1 s.B.2.2.1 s.B.2.2.2 t.B.1 t.B.2.1 t.B.2.2.1 t.B.2.2.2).bind fun x0=>
    bif x0 then ((og 1000 s.pr t.pr).bind fun x1=>
     bif x1 then ((ux 1000 s.ho t.ho).bind fun x2=>
      bif x2 then ((Cu 1000 s.m t.m).bind fun x3=>
       bif x3 then ((og 1000 s.ids t.ids).bind fun x4=>
        some x4)
       else some false)
      else some false)
     else some false)
    else some false)
   else some false)
  else some false)
 else some false:=rfl
  grind
def Z5 {r:qG}(hr:vN r){s:zU}(h:my r s):HP 1000 s.st=some (jQ s)∧Mo 1000 (jQ s)=some (s.st,true):=by
 obtain⟨l,el,l1,l2⟩:=ZF hr h.inv;have ZV:=h.inv.waits.idl;have hf:wZ (wF s.st):=by
  rw[el];refine⟨by rw[List.length_append];simp;omega,fun x hx=>?_⟩;rcases List.mem_append.1 hx with hx|hx
  ·have:=l2 x hx;omega
  ·rw[List.mem_singleton.1 hx];omega
 have qn:=(Cz (Nat.le_refl 1000) hr h.inv).2;exact⟨vC5 (Nat.le_refl _) hf,vJr (Nat.le_refl _) hf (yKe (Nat.le_refl _) hr h) (by have:(qA (wF s.st)).length≤7000:=qn;omega)⟩
def vSm {r:qG}(w:tg r)(cT:nD 1000 r=some true){ev:Int}(aN:1≤ev∧ev≤1000){N:Nat}(hN:N≤870){s:zU}{D:vX}(h:gJ 1000 r N s D)(nZ:D.1=200000):
  ∃D1 D2 L2,nE 1000 D=some D1∧fx 1000 r D1 ev=some (.inl (0,D2,jE r s ev,L2))∧gK 1000 r (N+1) s L2 D2∧jA D2=false∧D2.1=200000:=by
 have hD:=h.1;have h1:gJ 1000 r N s (D.1,D.2.1,D.2.2.1,D.2.2.2.1,D.2.2.2.2.1,D.2.2.2.2.2.1,D.2.2.2.2.2.2.1,false,false,0):=h.deck ⟨hD.x,hD.y,hD.room,hD.lx,hD.ly,hD.ck⟩ rfl rfl;rcases vTr (k:=1000) (Nat.le_refl _) w.ok cT w.inv w.new aN (by omega) (s:=s) rfl rfl h1 with⟨D2,L2,c1,c2,c3,c4⟩|⟨_,c2⟩
 ·exact⟨_,D2,L2,vV6 hD,c1,c2,c3,c4.trans nZ⟩
 ·have c2:D.1<100000:=c2;omega
end Go.Ab.Gi
namespace Go.Ab.Gi
open Go.Ab Go.RowKit
def vU8 {k}{r:qG}{s u:rf}{c:kX}{o:List qY}{e}(h:hZ k r s c=some (u,o,e))(h9:c.2.1=9):u=s:=by
 unfold hZ at h;cases hm:uS k r s c with
 |none=>simp_all
 |some x=>
  cases hx:decide (x=0) with
  |false=>
   simp_all
  |true=>
   cases hq:Cm k s c.1 with
   |none=>simp_all
   |some y=>
    simp_all
def Z6 {s t:zU}(h:s.st=t.st):s=t:=by
 obtain⟨a,⟨b1,b2,b3,b4⟩,c,d,e,f,g,i⟩:=s;unfold zU.st at h;simp_all
def Z7 {k:Nat}(hk:1000≤k){r:qG}(hr:vN r):yNn k r:=fun s hs c hc hf=>by
 obtain⟨t,o,e,h1,h2⟩:=Zn hk hr hs.inv c;refine⟨t,o,e,h1,⟨h2.inv,fun x hx=>?_⟩,fun h=>(h2.bad h).1⟩;rcases h2.ids x hx with h|h
 ·exact hs.ids x h
 ·rw[h];exact(hf _ (List.mem_cons_self ..)).2
end Go.Ab.Gi
namespace Go.Ab.Gi
open Go.Ab Go.RowKit
def Mp (r:qG):Prop:=r=r0∨r=r1∨r=r2∨r=r3
def Z8 {r}(h:Mp r):Z9 1000 r=some (eC r).st:=by
 rcases h with rfl|rfl|rfl|rfl<;>kernel_rfl
def qJo {r}(h:Mp r):vRg 1000 r:=by
 rcases h with rfl|rfl|rfl|rfl
 ·exact⟨by kernel_rfl,fun ev h1 h2=>by
   unfold fx;rw[show nD 1000 r0=some true by kernel_rfl,ae,aA,ak,ab (show¬ev<1 by omega),ak,ab (show¬ev>1000 by omega),ak]
   kernel_rfl,by kernel_rfl⟩
 ·exact⟨by kernel_rfl,fun ev h1 h2=>by
   unfold fx;rw[show nD 1000 r1=some true by kernel_rfl,ae,aA,ak,ab (show¬ev<1 by omega),ak,ab (show¬ev>1000 by omega),ak]
   kernel_rfl,by kernel_rfl⟩
 ·exact⟨by kernel_rfl,fun ev h1 h2=>by
   unfold fx;rw[show nD 1000 r2=some true by kernel_rfl,ae,aA,ak,ab (show¬ev<1 by omega),ak,ab (show¬ev>1000 by omega),ak]
   kernel_rfl,by kernel_rfl⟩
 ·exact⟨by kernel_rfl,fun ev h1 h2=>by
   unfold fx;rw[show nD 1000 r3=some true by kernel_rfl,ae,aA,ak,ab (show¬ev<1 by omega),ak,ab (show¬ev>1000 by omega),ak]
   kernel_rfl,by kernel_rfl⟩
def yVj (r:qG):Bool:=decide ((iY 1000 r).2.2.1=((iY 1000 r).2.1.length:Int))&&decide ((iY 1000 r).2.2.2.2.1=0)&&decide ((iY 1000 r).2.2.2.1.length=0)&&decide ((iY 1000 r).2.2.2.2.2.2.1<9223372036854775808)&& !ld (iY 1000 r)&&decide ((iY 1000 r).2.1=jS [yB 1++jQ (eC r)])&&decide ((eC r).to=0)&&(eC r).ids.all (fun x=>decide (x<9223372036854775808))
def vYb {r:qG}(h:Mp r):yVj r=true:=by
 rcases h with rfl|rfl|rfl|rfl<;>kernel_rfl
def fresh {r:qG}(h:Mp r)(w:tg r):my r (eC r)∧(eC r).to=0∧gK 1000 r 0 (eC r) (0,1,0,false) (iY 1000 r)∧(iY 1000 r).1=200000∧jA (iY 1000 r)=false:=by
 have c:=(qJo h).calm;have f:=vYb h;simp only[yVj,bb,Bool.not_eq_true',aW,List.all_eq_true] at c f;obtain⟨⟨⟨⟨c1,c2⟩,c3⟩,c4⟩,c5⟩:=c;obtain⟨⟨⟨⟨⟨⟨⟨f1,f2⟩,f3⟩,f4⟩,f5⟩,f6⟩,f7⟩,f8⟩:=f;have i6:my r (eC r):=⟨w.inv,f8⟩;refine⟨i6,f7,⟨⟨f1,by rw[f3];exact f2,by omega,by omega,by omega,f4⟩,f5,.inl rfl,rfl,by decide,⟨eC r,[],⟨i6,i6,.nil _,by decide,fun x hx=>absurd hx List.not_mem_nil,Nat.le_refl 0⟩,f6⟩,.inl ?_⟩,c3,c1⟩;have e:vA (iY 1000 r) (1-0)=(iY 1000 r).2.2.2.1:=rfl;show Cut (vA (iY 1000 r) (1-0));rw[e,List.eq_nil_of_length_eq_zero f3];exact JS
end Go.Ab.Gi
namespace Go.Ab.Gi
open Go.Ab Go.RowKit
def vVk {l:List oI}(hb:∀a∈l,a.2.2.1.length≤140737488355328):∃b,Q5 1000 l=some b∧(b=false→l.length≤100∧∀a∈l,a.2.2.1.length≤8000):=by
 have key:∀(c n i:Nat) (s:Nat),i+c=min l.length 200→c<n→s≤140737488355328*i→(∀j,j<i→(l.getD j d0).2.2.1.length≤s)→
   ∃t:Nat,HV 1000 n l (s:Int) (i:Int)=some (l,(t:Int))∧∀j,j<min l.length 200→(l.getD j d0).2.2.1.length≤t:=by
  intro c
  induction c with
  |zero=>
   intro n i s h1 h2 h3 h4;obtain⟨n,rfl⟩:∃m,n=m+1:=⟨n-1,by omega⟩;refine⟨s,?_,fun j hj=>h4 j (by omega)⟩;show HW 1000 _ l (s:Int) (i:Int)=_;unfold HW;by_cases h:i<l.length
   ·rw[aa (show(i:Int)<l.length by omega),ab (by omega)];rfl
   ·rw[ab (by omega)];rfl
  |succ c ih=>
   intro n i s h1 h2 h3 h4;obtain⟨n,rfl⟩:∃m,n=m+1:=⟨n-1,by omega⟩;have hi:i<l.length:=by omega
   have hl:=hb _ (fa (d:=d0) hi);obtain ⟨t, g1, g2⟩ := ih n (i + 1) (s + (l.getD i d0).2.2.1.length) (by omega) (by omega) (by omega) (fun j hj=>by
    by_cases e:j=i
    ·subst e;omega
    ·have:=h4 j (by omega);omega)
   refine⟨t,?_,g2⟩;show HW 1000 (HV 1000 n) l (s:Int) (i:Int)=_;unfold HW;rw[aa (show(i:Int)<l.length by omega),aa (show(i:Int)<200 by omega),wX (by omega) (by omega),ao];simp only[ag];have e:(s:Int)+((l.getD i (0,0,[],0,0)).2.2.1.length:Int)=((s+(l.getD i d0).2.2.1.length:Nat):Int):=by rw[Int.natCast_add];rfl
   rw[e,zO (by omega) (by omega),qD (N:=200) (by omega) (by omega)];exact g1
 obtain⟨t,g1,g2⟩:=key (min l.length 200) 1000 0 0 (by omega) (by omega) (by omega) (fun j hj=>absurd hj (Nat.not_lt_zero j));unfold Q5;have g1:HV 1000 1000 l 0 0=some (l,(t:Int)):=g1;rw[g1];simp only[ae];by_cases h:(l.length:Int)>100
 ·rw[aa h];exact⟨true,rfl,fun e=>by cases e⟩
 ·rw[ab h];refine⟨_,rfl,fun e=>⟨by omega,fun a ha=>?_⟩⟩;have e:=gd e;obtain⟨j,hj,rfl⟩:=List.mem_iff_getElem.1 ha;have:=g2 j (by omega);rw[List.getD_eq_getElem?_getD,List.getElem?_eq_getElem hj] at this;have:(l[j]).2.2.1.length≤t:=this;omega
inductive HX (r:qG):zU→List oI→zU→List (List qY)→Prop
 |nil (s:zU):HX r s [] s []
 |cons {s t u:zU} {a:oI} {A:List oI} {o:List qY} {os:List (List qY)} (h:ZI 1000 r s a.2.1 (kQ a.2.2.1) t o) (hi:qX r s) (g:HX r t A u os):HX r s (a::A) u (o::os)
def HX.snoc {r:qG}{s t u:zU}{a:oI}{A:List oI}{o:List qY}{os:List (List qY)}(g:HX r s A t os)(ht:qX r t)(h:ZI 1000 r t a.2.1 (kQ a.2.2.1) u o):HX r s (A++[a]) u (os++[o]):=by
 induction g with
 |nil s=>exact .cons h ht (.nil _)
 |cons h' hi _ ih=>exact .cons h' hi (ih ht h)
def aaa {k:Nat}(a:Int):∃r,Mq k a=some r∧tg r∧Mp r:=by
 unfold Mq;cases decide (yN .i64 a 3=1) with
 |true=>exact⟨r1,rfl,vXp,.inr (.inl rfl)⟩
 |false=>
  cases decide (yN .i64 a 3=2) with
  |true=>exact⟨r2,rfl,ZD,.inr (.inr (.inl rfl))⟩
  |false=>
   cases decide (yN .i64 a 3=3) with
   |true=>exact⟨r3,rfl,vUn,.inr (.inr (.inr rfl))⟩
   |false=>exact⟨r0,rfl,ZC,.inl rfl⟩
end Go.Ab.Gi
namespace Go.Ab.Gi
open Go.Ab Go.RowKit
def tl (r s ev L D):lg 1000 (jE r s ev) L D=some (false,jE r s ev,L,D):=rfl
def Mr (r s ev L D):lg 1000 (CB r s ev) L D=some (true,CB r s ev,L,D):=rfl
def vQ7 {r}(hr:vN r){s}(h:my r s):iZ 1000 s.st=some s.st:=by
 unfold iZ;obtain⟨h1,h2⟩:=Z5 hr h;simp_all
def CH {r}(hr:vN r){s}(hs:qX r s)(rec:HY) ev (l:List oI) i (L:fS)(D:vX):
    ((vO 1000 (jE r s ev) L D).bind fun dP=>
       (jP 1000 dP.1 s.st).bind fun mz=>
       bif !mz then some (.inr false)
       else rec ev l i (r.1,r.2.2) r.2.1 (dP.2.2.2.1,dP.2.2.2.2.2.1,dP.2.2.2.2.2.2.2) dP.2.2.2.2.1 dP.2.2.2.2.2.2.1 dP.2.1 dP.2.2.1 s.st)=rec ev l i (r.1,r.2.2) r.2.1 (D.1,D.2.2.1,D.2.2.2.2) D.2.1 D.2.2.2.1 (jE r s ev) L s.st:=by
  refine(congrArg (fun z=>Option.bind z _) (ZA hr hs)).trans ?_;rfl
def qTs {r}(w:tg r)(cT:nD 1000 r=some true){ev}(aN:1≤ev∧ev≤1000){N}(hN:N≤870){s D}(h:gJ 1000 r N s D)(nZ:D.1=200000) S M (hSM:s=S∨s=M)(rec:HY)(l:List oI) i:
    ∃ L2 D2, ((nE 1000 D).bind fun oE=>
      (fx 1000 ((r.1,r.2.2).1,r.2.1,(r.1,r.2.2).2) oE ev).bind fun bM=>
      match bM with
      |.inl gL=>bif !(decide (gL.1=0)) then some (.inr false)
       else(vO 1000 gL.2.2.1 gL.2.2.2 gL.2.1).bind fun eE=>
       (jP 1000 eE.1 S.st).bind fun mA=>
       bif !mA then ((vO 1000 eE.2.1 eE.2.2.1 eE.2.2.2).bind fun ja=>
        (jP 1000 ja.1 M.st).bind fun eF=>
        bif !eF then some (.inr false)
        else(vO 1000 ja.2.1 ja.2.2.1 ja.2.2.2).bind fun lH=>
        (iZ 1000 lH.1).bind fun mB=>
        rec ev l i (r.1,r.2.2) r.2.1 (lH.2.2.2.1,lH.2.2.2.2.2.1,lH.2.2.2.2.2.2.2) lH.2.2.2.2.1 lH.2.2.2.2.2.2.1 lH.2.1 lH.2.2.1 mB)
       else(vO 1000 eE.2.1 eE.2.2.1 eE.2.2.2).bind fun mC=>
       (iZ 1000 mC.1).bind fun Ms=>
       rec ev l i (r.1,r.2.2) r.2.1 (mC.2.2.2.1,mC.2.2.2.2.2.1,mC.2.2.2.2.2.2.2) mC.2.2.2.2.1 mC.2.2.2.2.2.2.1 mC.2.1 mC.2.2.1 Ms
      |.inr lI=>bif !(decide (lI.1=0)) then some (.inr false)
       else some (.inr false))=rec ev l i (r.1,r.2.2) r.2.1 (D2.1,D2.2.2.1,D2.2.2.2.2) D2.2.1 D2.2.2.2.1 (jE r s ev) L2 s.st∧gK 1000 r (N+1) s L2 D2∧D2.1=200000:=by
  obtain⟨D1,D2,L2,a1,a2,a3,_,a5⟩:=vSm w cT aN hN h nZ;have h6:my r s:=by
    obtain⟨_,_,hM,_⟩:=a3.main;exact hM.i
  refine⟨L2,D2,?_,a3,a5⟩;have hcp:=vQ7 w.ok h6;obtain⟨b,hb⟩:=Z4 w.ok h6.inv S;rw[a1,ae];refine(congrArg (fun z=>Option.bind z _) a2).trans ?_;refine(congrArg (fun z=>Option.bind z _) hb).trans ?_;cases b with
  |true=>
    refine(congrArg (fun z=>Option.bind z _) hcp).trans ?_;rfl
  |false=>
    have hsM:s=M:=by
      rcases hSM with e|e
      · rw[←e,ZA w.ok h6.inv] at hb;cases hb
      omega
    rw[←hsM];refine(congrArg (fun z=>Option.bind z _) (ZA w.ok h6.inv)).trans ?_;refine(congrArg (fun z=>Option.bind z _) hcp).trans ?_;rfl
def aab {r:qG}(w:tg r)(cT:nD 1000 r=some true){ev:Int}(aN:1≤ev∧ev≤1000)(l:List oI){i:Nat}(hi:i<l.length)(bJ:l.length≤1000)(ha:vBm 1000 (l.getD i d0)){N:Nat}(hN:N≤860){s:zU}{L:fS}{D:vX}(h:gK 1000 r N s L D)(nZ:D.1=200000)(rec:HY):
  ∃s' L' D',HZ 1000 rec ev l (i:Int) (r.1,r.2.2) r.2.1 (D.1,D.2.2.1,D.2.2.2.2) D.2.1 D.2.2.2.1 (jE r s ev) L s.st=rec ev l ((i+1:Nat):Int) (r.1,r.2.2) r.2.1 (D'.1,D'.2.2.1,D'.2.2.2.2) D'.2.1 D'.2.2.2.1 (jE r s' ev) L' s'.st∧gK 1000 r (N+5) s' L' D'∧D'.1=200000:=by
 have hs6:my r s:=by
  obtain⟨_,_,hM,_⟩:=h.main;exact hM.i
 have hs:=hs6.inv;obtain⟨⟨kd,a,b,cA,cK⟩,hx⟩:∃x,l.getD i d0=x:=⟨_,rfl⟩;rw[hx] at ha;obtain⟨BN,Mt,ha3⟩:=ha;dsimp only at BN Mt ha3;have nQ:l.getD i (0,0,[],0,0)=(kd,a,b,cA,cK):=hx;have lt:decide ((i:Int)<(l.length:Int))=true:=aa (by omega);have bd:zB (i:Int) l.length=true:=wX (by omega) (by omega);have w1:zA ((i:Int)+1)=((i+1:Nat):Int):=qD hi (by omega);unfold HZ;rw[lt,bd,ao,nQ,w1];simp only[ag];by_cases k2:kd=2
 ·rw[aa k2];have hD:=h.clean;refine⟨s,L,(D.1,D.2.1,D.2.2.1,D.2.2.2.1,D.2.2.2.2.1,cA,cK,true,D.2.2.2.2.2.2.2.2),rfl,?_,nZ⟩;obtain⟨q1,q2,q3,q4,q5,q6,q7⟩:=h.more (show N≤N+5 by omega);exact⟨⟨hD.x,hD.y,hD.room,hD.lx,hD.ly,ha3⟩,q2,q3,q4,q5,q6,q7⟩
 rw[ab k2];simp only[ak];by_cases k1:kd=1
 case neg=>
  rw[ab k1];simp only[ak];refine⟨s,L,D,?_,h.more (by omega),nZ⟩;refine(congrArg (fun z=>Option.bind z _) (tl r s ev L D)).trans ?_;simp only[ae,bF,ag];exact CH w.ok hs rec ev l _ L D
 rw[aa k1];simp only[ag];obtain⟨o,G',L',D',d1,d2,d3⟩:=ZZ (k:=1000) (Nat.le_refl _) w.ok (Z7 (Nat.le_refl _) w.ok) (fun s c u o e h h9=>vU8 h h9) (ev:=ev) (by omega) h BN (b:=b) Mt.1 Mt.2;have fj:JN 1000 b=some (kQ b):=vOb (by decide) Mt.1 Mt.2;have vk:D'.1=200000:=d2.trans nZ;generalize kQ b=m at d3 fj;obtain⟨t',o',e',q1,q2,q3⟩:=vXd w.ok hs (a,m.1);have yr:∀u:zU,hZ 1000 r s.st (a,m.1)=some (u.st,o,0)→t'=u:=fun u hu=>by
  have:=q1.symm.trans hu;simp only[Option.some.injEq,Prod.mk.injEq] at this;exact Z6 this.1
 cases d3 with
 |none hA=>
  refine⟨s,L,D,?_,h.more (by omega),nZ⟩;refine(congrArg (fun z=>Option.bind z _) d1).trans ?_;simp only[ae];refine(congrArg (fun z=>Option.bind z _) fj).trans ?_;simp only[ae];by_cases hm:m.2=0
  ·rw[aa hm];simp only[ag];have et:t'=s:=by
    rcases hA with⟨h0,_⟩|⟨_,x,p,e,p1,⟨he,_,_⟩|⟨he,hx,_⟩⟩
    ·exact absurd hm h0
    ·have:=q1.symm.trans p1;simp only[Option.some.injEq,Prod.mk.injEq] at this;exact(q3.bad (by rw[this.2.2];exact he)).1
    ·have:=q1.symm.trans p1;simp only[Option.some.injEq,Prod.mk.injEq] at this;exact Z6 (this.1.trans hx)
   subst et;refine(congrArg (fun z=>Option.bind z _) q2).trans ?_;simp only[ae];cases decide ((o.length:Int)>0) with
   |true=>
    simp only[ag];refine(congrArg (fun z=>Option.bind z _) (tl r t' ev L D)).trans ?_;simp only[ae,bF,ag];exact CH w.ok hs rec ev l _ L D
   |false=>
    simp only[ak];refine(congrArg (fun z=>Option.bind z _) (tl r t' ev L D)).trans ?_;simp only[ae,bF,ag];refine(congrArg (fun z=>Option.bind z _) (tl r t' ev L D)).trans ?_;simp only[ae,bF,ag];exact CH w.ok hs rec ev l _ L D
  ·rw[ab hm];simp only[ak];cases decide ((o.length:Int)>0) with
   |true=>
    simp only[ag];refine(congrArg (fun z=>Option.bind z _) (tl r s ev L D)).trans ?_;simp only[ae,bF,ag];exact CH w.ok hs rec ev l _ L D
   |false=>
    simp only[ak];refine(congrArg (fun z=>Option.bind z _) (tl r s ev L D)).trans ?_;simp only[ae,bF,ag];refine(congrArg (fun z=>Option.bind z _) (tl r s ev L D)).trans ?_;simp only[ae,bF,ag];exact CH w.ok hs rec ev l _ L D
 |disk hf p q=>omega
 |@done t _ _ _ hm hA hR lf=>
  have et:=yr t hA;subst et;refine⟨t',L',D',?_,hR.more (by omega),vk⟩;refine(congrArg (fun z=>Option.bind z _) d1).trans ?_;simp only[ae];refine(congrArg (fun z=>Option.bind z _) fj).trans ?_;simp only[ae];rw[aa hm];simp only[ag];refine(congrArg (fun z=>Option.bind z _) q2).trans ?_;simp only[ae];cases decide ((o.length:Int)>0) with
  |true=>
   simp only[ag];refine(congrArg (fun z=>Option.bind z _) (tl r t' ev L' D')).trans ?_;simp only[ae,bF,ag];exact CH w.ok q3.inv rec ev l _ L' D'
  |false=>
   simp only[ak];refine(congrArg (fun z=>Option.bind z _) (tl r t' ev L' D')).trans ?_;simp only[ae,bF,ag];refine(congrArg (fun z=>Option.bind z _) (tl r t' ev L' D')).trans ?_;simp only[ae,bF,ag];exact CH w.ok q3.inv rec ev l _ L' D'
 |@lost t _ _ _ hm hA lf hd dm=>
  have et:t'=t:=by
   have:=q1.symm.trans hA;simp only[Option.some.injEq,Prod.mk.injEq] at this;exact Z6 this.1
  subst et;obtain⟨u,hu,hSu⟩:∃u,gJ 1000 r (N+4) u D'∧(u=s∨u=t'):=by
   rcases dm with p|p
   ·exact⟨_,p,.inl rfl⟩
   ·exact⟨_,p,.inr rfl⟩
  obtain⟨L2,D2,e1,e2,e3⟩:=qTs w cT aN (by omega) hu vk s t' hSu rec l ((i+1:Nat):Int);refine⟨u,L2,D2,?_,e2,e3⟩;refine(congrArg (fun z=>Option.bind z _) d1).trans ?_;simp only[ae];refine(congrArg (fun z=>Option.bind z _) fj).trans ?_;simp only[ae];rw[aa hm];simp only[ag];refine(congrArg (fun z=>Option.bind z _) q2).trans ?_;simp only[ae];rw[show decide ((([]:List qE).length:Int)>0)=false from rfl];simp only[ak];refine(congrArg (fun z=>Option.bind z _) (Mr r s ev L' D')).trans ?_;simp only[ae,aA,ak];refine(congrArg (fun z=>Option.bind z _) (Mr r s ev L' D')).trans ?_;simp only[ae,aA,ak];exact e1
 |@late t _ _ _ hm hA lf hd dm=>
  have et:=yr t hA;subst et;cases ho:decide ((o.length:Int)>0) with
  |true=>
   obtain⟨L2,D2,e1,e2,e3⟩:=qTs w cT aN (by omega) dm vk t' t' (.inl rfl) rec l ((i+1:Nat):Int);refine⟨t',L2,D2,?_,e2,e3⟩;refine(congrArg (fun z=>Option.bind z _) d1).trans ?_;simp only[ae];refine(congrArg (fun z=>Option.bind z _) fj).trans ?_;simp only[ae];rw[aa hm];simp only[ag];refine(congrArg (fun z=>Option.bind z _) q2).trans ?_;simp only[ae];rw[ho];simp only[ag];refine(congrArg (fun z=>Option.bind z _) (Mr r t' ev L' D')).trans ?_;simp only[ae,aA,ak];exact e1
  |false=>
   obtain⟨L2,D2,e1,e2,e3⟩:=qTs w cT aN (by omega) dm vk s t' (.inr rfl) rec l ((i+1:Nat):Int);refine⟨t',L2,D2,?_,e2,e3⟩;refine(congrArg (fun z=>Option.bind z _) d1).trans ?_;simp only[ae];refine(congrArg (fun z=>Option.bind z _) fj).trans ?_;simp only[ae];rw[aa hm];simp only[ag];refine(congrArg (fun z=>Option.bind z _) q2).trans ?_;simp only[ae];rw[ho];simp only[ak];refine(congrArg (fun z=>Option.bind z _) (Mr r t' ev L' D')).trans ?_;simp only[ae,aA,ak];refine(congrArg (fun z=>Option.bind z _) (Mr r t' ev L' D')).trans ?_;simp only[ae,aA,ak];exact e1
def vPb {r}(w:tg r)(cT:nD 1000 r=some true){ev}(aN:1≤ev∧ev≤1000)(l:List oI)(hl:l.length≤50)(ha:∀a∈l,vBm 1000 a){s0 L0 D0}(h0:gK 1000 r 0 s0 L0 D0)(nZ:D0.1=200000):
  H0 1000 1000 ev l 0 (r.1,r.2.2) r.2.1 (D0.1,D0.2.2.1,D0.2.2.2.2) D0.2.1 D0.2.2.2.1 (jE r s0 ev) L0 s0.st=some (.inl ()):=by
 obtain⟨x,h1,h2⟩:=yW (L:=fun n i (x:zU×fS×vX)=>H0 1000 n ev l i (r.1,r.2.2) r.2.1 (x.2.2.1,x.2.2.2.2.1,x.2.2.2.2.2.2) x.2.2.2.1 x.2.2.2.2.2.1 (jE r x.1 ev) x.2.1 x.1.st) (N:=l.length)
  (fun x => (.inl () : Unit ⊕ Bool)) (fun i x => gK 1000 r (5 * i) x.1 x.2.1 x.2.2 ∧ x.2.2.1 = 200000) (fun n x _=>by
  show HZ 1000 _ ev l (l.length:Int) (r.1,r.2.2) r.2.1 (x.2.2.1,x.2.2.2.2.1,x.2.2.2.2.2.2) x.2.2.2.1 x.2.2.2.2.2.1 (jE r x.1 ev) x.2.1 x.1.st=_;unfold HZ;simp) (fun n i x hi hx=>by
  obtain⟨s',L',D',g1,g2,g3⟩:=aab w cT aN l hi (by omega) (by grind) (by omega) hx.1 hx.2 (H0 1000 n);exact⟨(s',L',D'),g1,g2,g3⟩) (n:=1000) (s:=(s0,L0,D0)) (by omega) (by grind)
 exact h1
def vRs (a ev:Int)(l:List oI)(hb:∀a∈l,ZY a.2.1∧a.2.2.1.length≤140737488355328∧a.2.2.2.2<9223372036854775808):Q6 1000 a ev l=some true:=by
 unfold Q6;obtain⟨b,fG,hb2⟩:=vVk (fun x hx=>(hb x hx).2.1);rw[fG];simp only[ae];cases b with
 |true=>rfl
 |false=>
 obtain⟨_,hlen⟩:=hb2 rfl;simp only[ak];by_cases q1:(l.length:Int)>50
 ·rw[aa q1];rfl
 rw[ab q1];by_cases h1:ev<1
 ·rw[aa h1];rfl
 rw[ab h1];by_cases h2:ev>50
 ·rw[aa h2];rfl
 rw[ab h2];simp only[ak];obtain⟨r,hr,w,hf⟩:=aaa (k:=1000) a;rw[hr];simp only[ae];obtain⟨i6,LA,hR,aO,aen⟩:=fresh hf w;have cT:nD 1000 r=some true:=by rcases hf with rfl|rfl|rfl|rfl<;>kernel_rfl
 rw[(qJo hf).new];simp only[ae];refine(congrArg (fun z=>Option.bind z _) ((qJo hf).is ev (by omega) (by omega))).trans ?_;simp only[ae,decide_true,aA,ak];refine(congrArg (fun z=>Option.bind z _) (Z8 hf)).trans ?_;simp only[ae];have kY:=vPb w cT (ev:=ev) (by omega) l (by omega) (fun x hx=>⟨(hb x hx).1,⟨by have:=hlen x hx;omega,(hb x hx).2.1⟩,(hb x hx).2.2⟩) hR aO;refine(congrArg (fun z=>Option.bind z _) kY).trans ?_;have hk:qTz 1000=some true:=by kernel_rfl
 simp only[ae];rw[hk];rfl
end Go.Ab.Gi
