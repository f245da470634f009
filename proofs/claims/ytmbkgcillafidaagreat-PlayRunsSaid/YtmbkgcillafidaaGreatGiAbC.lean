/- part 2 -/
import Derived.Test.YtmbkgcillafidaaGreatGiAbB
import Derived.ProofKit
import Derived.Below
import Derived.Carry
set_option linter.unusedVariables false
set_option linter.unusedSimpArgs false
namespace Go.Ab
def zN.nilObj (M:zN)(nm:Nat)(o:Obj)(sz:Nat):zN:={M with κ:=κset M.κ nm ⟨none,0,sz,0,[]⟩,h:=yP M.h nm o}
def kN (t:Ty)(rows:Bool):Obj:=bif rows then .mat 0 [] else .arr true t []
def mj (t:Ty)(rows:Bool):Nat:=bif rows then 1 else t.size
theorem zN.nilObj_ok {M}(ok:Ok M){nm}(aV:M.h nm=none) t rows:
  Ok (M.nilObj nm (kN t rows) (mj t rows))∧yV M (M.nilObj nm (kN t rows) (mj t rows))∧(∀b,qU (M.nilObj nm (kN t rows) (mj t rows)) b→qU M b):=by
 have hO:∀M':zN,vC M' (kN t rows) ⟨none,0,mj t rows,0,[]⟩:=fun M'=>by
  cases rows with
  |false=>exact⟨rfl,rfl,by simp,rfl⟩
  |true=>exact⟨rfl,rfl,rfl,rfl,by simp[qE.fp],rfl⟩
 have x:yV M (M.nilObj nm (kN t rows) (mj t rows)):=⟨fun id C h=>by
  have bx:id≠nm:=fun e=>by rw[e,ok.non nm aV] at h;cases h
  exact⟨C,by show κset M.κ nm _ id=_;rw[κset_ne _ _ bx];exact h,C.le_refl⟩,fun _ h=>h,fun _ h=>h,fun _ _=>rfl,fun _ _=>rfl,fun _ _=>rfl⟩
 refine⟨Ok.build ok x (fun id=>id=nm) (fun id h=>yZ _ _ h) (fun id h=>κset_ne _ _ h) (fun _ _ _ _ _ _ _ _ _=>rfl) (fun id o C h1 h2 h3 h4 b hb=>(ok.own b ⟨id,o,C,h2,h3,h4,hb⟩).1) (Nat.le_refl _)
  (fun id o e h=>?_) (fun id e h=>?_) (fun id o C b e h1 h2 h3 h4=>?_) ok.GF ok.Flt,x,fun b hb=>?_⟩
 ·subst e;have e1:(M.nilObj id (kN t rows) (mj t rows)).h id=some (kN t rows):=yW _ _ _;rw[e1] at h;cases h;exact⟨_,κset_same _ _ _,hO _⟩
 ·have e1:(M.nilObj id (kN t rows) (mj t rows)).h id=some (kN t rows):=yW _ _ _;simp_all
 ·subst e;have e1:(M.nilObj id (kN t rows) (mj t rows)).κ id=some _:=κset_same _ _ _;rw[e1] at h3;cases h3;simp[qE.fp] at h4
 ·obtain⟨id,o,C,h1,h2,h3,h4⟩:=hb;by_cases e:id=nm
  ·subst e;have e1:(M.nilObj id (kN t rows) (mj t rows)).κ id=some _:=κset_same _ _ _;rw[e1] at h3;cases h3;simp[qE.fp] at h4
  ·exact⟨id,o,C,by rw[←h1];exact(yZ _ _ e).symm,h2,by rw[←h3];exact(κset_ne _ _ e).symm,h4⟩
theorem kh.same_mem {M M'}(hF:M'.F=M.F)(hG:M'.G=M.G)(hH:M'.H=M.H)(ho:∀b,qU M' b→qU M b):kh M M':=
 ⟨by grind,by grind,by grind,by grind,by grind,by simp_all,by grind,by grind,
  by grind,by grind⟩
theorem kh.refl M:kh M M:=.same_mem rfl rfl rfl (by simp)
section
variable {na nt:Nat} {a0:Nat→Value} {M0:zN} {w0 w:World} {a:Act}
theorem zO.set_left {α β R l}{m:List β}(h:zO R l m){j}{c:α}(hc:∀(h1:j<l.length) h2,R c m[j]):zO R (l.set j c) m:=by
 refine zO.of_get (by rw[List.length_set];exact h.length) fun i hi bI=>?_
 rw[List.length_set] at hi;by_cases e:j=i
 ·simp_all
 ·rw[List.getElem_set_ne e];exact h.get i hi bI
theorem W0 {st}{s j}(r:vY false na nt a0 M0 w0 st a w):vY false na nt a0 M0 w0 (UO st s j) a w:=by
 obtain⟨M,h1,h2,h3,h4,h5⟩:=r.ex;unfold UO;split
 ·split
  ·rename_i c hs;split
   ·rename_i c' u hf;have hv:=h5 s;rw[hs] at hv;rw[←h1] at hf;obtain⟨L,k1,k2,k3,k4,k5,_⟩:=JF h3 (jL.refl _) (show qA M c _ from hv) hf;refine⟨⟨L,by rw[k2,h1],k1.trans h2,k3,h4.trans k4.grow,fun t=>?_⟩,r.defers,r.size,r.os,r.tape,r.output,r.keep⟩;show zX _ (jY st.t s _ t) _;unfold jY;cases e:Nat.beq t s with
    |false=>exact(h5 t).ext k4.ext
    |true=>
     have e:t=s:=by simpa using e
     subst e;exact k5
   ·exact r
  ·exact r
 ·rename_i j;split
  ·rename_i id hs;split
   ·rename_i cells an;split
    ·rename_i c yY;split
     ·rename_i c' u hf;rw[←h1] at hf an;obtain⟨C0,su,hO0⟩:=h3.obj id _ an;obtain⟨B0,xw,e0,b10,b20,b30,b40,b50⟩:=hO0;have hj:j<cells.length:=(List.getElem?_eq_some_iff.1 yY).1;have W1:j<xw.toList.length:=by rw[←b40.length];exact hj
      have lH:=b40.get j hj W1;have ec:cells[j]=c:=by grind
      rw[ec] at lH;obtain⟨L,k1,k2,k3,k4,k5,k6,_⟩:=JF h3 (jL.refl _) lH hf;have BE:L.h id=some (.box true cells):=by
       rcases k6 id with h|⟨own,t,xs,h,_⟩|⟨ver,xs,h,_⟩
       all_goals simp_all
      obtain⟨C,hC,hO⟩:=k3.obj id _ BE;obtain⟨B,vals,e,b1,b2,b3,b4,b5⟩:=hO;obtain⟨C1,iW,le⟩:=k4.ext.κ id C0 su;rw[hC] at iW;cases iW;have eB:B=B0:=by rw[le.blk,b10] at b1;simp_all
      subst eB;rw[k1,b30] at b3;cases b3;have hx:=zN.write_ext (H':=L.H) k3 BE rfl hC C.le_refl (by simp) (by simp) (.box true (cells.set j c'));have hw := zN.write_ok (H' := L.H) (o' := .box true (cells.set j c')) k3 BE rfl hC C.le_refl (by simp) rfl (by simp) (by simp) (by
       refine⟨B,xw,e0,b1,b2,by show L.H[B]? =_;simp_all,?_,by simp⟩;exact(b4.mono fun _ _ h=>h.ext hx).set_left fun _ _=>k5.ext hx)
      refine⟨⟨L.write id (.box true (cells.set j c')) C L.H,?_,k1.trans h2,hw.1,(h4.trans k4.grow).trans hw.2.grow,fun t=>((h5 t).ext k4.ext).ext hx⟩,r.defers,r.size,r.os,r.tape,r.output,r.keep⟩;show yP L.h id _=yP (qL st.h u) id _;rw[k2,h1]
     ·exact r
    ·exact r
   ·exact r
  ·rename_i cells hs;split
   ·rename_i c yY;split
    ·rename_i c' u hf;have hv:=h5 s;rw[hs] at hv;obtain⟨vs,dI,bn⟩:=hv;rw[←h1] at hf;have hj:j<cells.length:=by grind
     have W1:j<vs.toList.length:=by rw[←bn.length];exact hj
     have lH:=bn.get j hj W1;have ec:cells[j]=c:=by grind
     rw[ec] at lH;obtain⟨L,k1,k2,k3,k4,k5,k6,_⟩:=JF h3 (jL.refl _) lH hf;refine⟨⟨L,by rw[k2,h1],k1.trans h2,k3,h4.trans k4.grow,fun t=>?_⟩,r.defers,r.size,r.os,r.tape,r.output,r.keep⟩;show zX _ (jY st.t s _ t) _;unfold jY;cases e:Nat.beq t s with
     |false=>exact(h5 t).ext k4.ext
     |true=>
      have e:t=s:=by simpa using e
      subst e;exact⟨vs,dI,(bn.mono fun _ _ h=>h.ext k4.ext).set_left (by grind)⟩
    ·exact r
   ·exact r
  ·exact r
theorem vRy {st nm g}(r:vY false na nt a0 M0 w0 st a w)(aV:st.h nm=none):vY false na nt a0 M0 w0 (UP st nm g) a w:=by
 obtain⟨M,h1,h2,h3,h4,h5⟩:=r.ex;have hM:M.h nm=none:=by simp_all
 obtain⟨k1,k2,k3⟩:=M.nilObj_ok h3 hM g.2.2.1 g.2.2.2;have cO:qA (M.nilObj nm (kN g.2.2.1 g.2.2.2) (mj g.2.2.1 g.2.2.2)) (.osl nm none) (.slice none 0 0):=⟨_,κset_same _ _ _,none,0,rfl,rfl,rfl,rfl⟩;have gr:uj false M0 (M.nilObj nm (kN g.2.2.1 g.2.2.2) (mj g.2.2.1 g.2.2.2)):=h4.trans (.same_mem rfl rfl rfl k3);unfold UP;cases aju:g.2.2.2&&vHw g.2.2.1 with
 |true=>exact W0 r
 |false=>
 split
 ·split
  ·rename_i hs;refine⟨⟨M.nilObj nm (kN g.2.2.1 g.2.2.2) (mj g.2.2.1 g.2.2.2),?_,h2,k1,gr,fun t=>?_⟩,r.defers,r.size,r.os,r.tape,r.output,r.keep⟩
   ·show yP M.h nm _=yP st.h nm _;rw[h1];rfl
   ·show zX _ (jY st.t g.1 _ t) _;unfold jY;cases e:Nat.beq t g.1 with
    |false=>exact(h5 t).ext k2
    |true=>
     have e:t=g.1:=by simpa using e
     subst e;have hv:=h5 g.1;rw[hs] at hv;rw[hv];exact cO
  ·exact r
 ·rename_i j hj;split
  ·rename_i id hs;split
   ·rename_i cells an;split
    ·have bx:id≠nm:=by grind
     let M1:=M.nilObj nm (kN g.2.2.1 g.2.2.2) (mj g.2.2.1 g.2.2.2);have pU:M1.h id=some (.box true cells):=by
      show yP M.h nm _ id=_;rw[yZ _ _ bx,h1];exact an
     obtain⟨C,hC,hO⟩:=k1.obj id _ pU;obtain⟨B,vals,e,b1,b2,b3,b4,b5⟩:=hO;have hx:=zN.write_ext (H':=M1.H) k1 pU rfl hC C.le_refl (by grind) (by grind) (.box true (cells.set j (.osl nm none)));have hw := zN.write_ok (H' := M1.H) (o' := .box true (cells.set j (.osl nm none))) k1 pU rfl hC C.le_refl (by simp) rfl (by grind) (by grind) (by
      refine⟨B,vals,e,b1,b2,b3,?_,by simp⟩;have hl:=b4.length;refine zO.of_get (by simp_all) fun i hi bI=>?_
      have hb:=b4.get i (by omega) bI;by_cases eij:j=i
      ·subst eij;rw[List.getElem_set_self];have ec:cells[j]=.nsl:=by
        grind
       rw[ec] at hb;rw[hb];exact cO.ext hx
      ·rw[List.getElem_set_ne eij];exact hb.ext hx)
     refine⟨⟨M1.write id (.box true (cells.set j (.osl nm none))) C M1.H,?_,h2,hw.1,gr.trans hw.2.grow,fun t=>((h5 t).ext k2).ext hx⟩,r.defers,r.size,r.os,r.tape,r.output,r.keep⟩;show yP (yP M.h nm _) id _=yP (yP st.h nm _) id _;rw[h1];rfl
    ·exact r
   ·exact r
  ·exact r
theorem yY7:∀{l st bJ nm},vY false na nt a0 M0 w0 st a w→OO st nm l=some bJ→vY false na nt a0 M0 w0 bJ a w
 |[],st,bJ,nm,r,h=>by cases h;exact r
 |g::l,st,bJ,nm,r,h=>by
  unfold OO at h;split at h
  ·rename_i aV;exact yY7 (vRy r aV) h
  ·cases h
theorem vE9 {id}:∀{l n i},fu id l n=some i→n≤i∧l[i-n]? =some id
 |x::l,n,i,h=>by
  unfold fu at h;cases e:Nat.beq x id with
  |true=>
   simp_all
  |false=>
   rw[e] at h;obtain⟨h1,h2⟩:=vE9 (l:=l) h;grind
theorem W2 {h}:∀n {todo seen},seen.Nodup→(DY h n todo seen).Nodup
 |0,_,_,hs
 |n+1,[],_,hs=>hs
 |n+1,id::todo,seen,hs=>by
  unfold DY;cases e:seen.any (Nat.beq id) with
  |true=>exact W2 n hs
  |false=>
   refine W2 n (List.nodup_append.2 ⟨hs,by simp,fun x hx y hy exy=>?_⟩);have:y=id:=by simp_all
   have:=List.any_eq_false.1 e x hx;simp_all
def qa (base : Nat) (κ : Nat → Option qE) (ids : List Nat) : Nat → Option qE := fun n => if base ≤ n then (match ids[n-base]? with
 |some id=>(κ id).map fun C=>{C with ver:=0}
 |none=>none) else none
def zN.ren (M:zN)(base:Nat)(ids:List Nat):zN:={M with κ:=qa base M.κ ids,h:=Bb base M.h ids}
theorem W3 {base h ids n o}(e:Bb base h ids n=some o):∃id o',base≤n∧ids[n-base]? =some id∧h id=some o'∧o=xg h (fun i=>(fu i ids 0).map (base+·)) o':=by
 unfold Bb at e;cases hb:Nat.ble base n with
 |false=>simp_all
 |true=>
  rw[hb] at e;split at e
  ·obtain⟨o',h1,h2⟩:=Option.map_eq_some_iff.1 e;simp_all
  ·cases e
theorem vSl {base κ ids id i C}(hi:fu id ids 0=some i)(hC:κ id=some C):qa base κ ids (base+i)=some {C with ver:=0}:=by
 obtain⟨_,h⟩:=vE9 hi;unfold qa;simp_all
theorem W4 {M}(ok:Ok M){base ids c v}(h:qA M c v):qA (M.ren base ids) (xf M.h (fun i=>(fu i ids 0).map (base+·)) c) v:=by
 have h1:=h.one;have look:∀id C,M.κ id=some C→∀i,(fu id ids 0).map (base+·)=some i→(M.ren base ids).κ i=some {C with ver:=0}:=fun id C hC i hi=>by
  obtain⟨j,hj,rfl⟩:=Option.map_eq_some_iff.1 hi;exact vSl hj hC
 unfold xf;cases c with
 |osl id r=>
  dsimp only;obtain⟨C,hC,h⟩:=h;cases e:(fu id ids 0).map (base+·) with
  |none=>exact h1
  |some i=>cases r with
   |none=>exact⟨_,look id C hC i e,h⟩
   |some p=>exact⟨_,look id C hC i e,h⟩
 |bsl id x y=>
  dsimp only;obtain⟨C,B,hC,h⟩:=h;cases e:(fu id ids 0).map (base+·) with
  |none=>exact h1
  |some i=>exact⟨_,B,look id C hC i e,h⟩
 |ptr id x=>
  dsimp only;obtain⟨C,B,hC,h⟩:=h;cases e:(fu id ids 0).map (base+·) with
  |none=>exact h1
  |some i=>exact⟨_,B,look id C hC i e,h⟩
 |eptr id x y=>
  dsimp only;obtain⟨C,B,hC,h⟩:=h;cases e:(fu id ids 0).map (base+·) with
  |none=>exact h1
  |some i=>exact⟨_,B,look id C hC i e,h⟩
 |mrow id x ver=>
  dsimp only;obtain⟨C,hC,ho,hle,h⟩:=h;cases e:(fu id ids 0).map (base+·) with
  |none=>exact h1
  |some i=>
   split
   ·rename_i i' v' xs ei an;cases ei;cases fU:Nat.beq v' ver with
    |false=>exact h1
    |true=>
     have iT:v'=ver:=by simpa using fU
     obtain⟨C',aF,hO⟩:=ok.obj id _ an;rw[hC] at aF;cases aF;exact⟨_,look id C hC i e,h1,Nat.le_refl _,fun _=>h (by rw[hO.1,iT])⟩
   ·exact h1
 |mptr id x=>
  dsimp only;obtain⟨C,B,hC,h⟩:=h;cases e:(fu id ids 0).map (base+·) with
  |none=>exact h1
  |some i=>exact⟨_,B,look id C hC i e,h⟩
 |meptr id x y ver=>
  dsimp only;obtain⟨C,hC,ho,hle,h⟩:=h;cases e:(fu id ids 0).map (base+·) with
  |none=>exact h1
  |some i=>
   split
   ·rename_i i' v' xs ei an;cases ei;cases fU:Nat.beq v' ver with
    |false=>exact h1
    |true=>
     have iT:v'=ver:=by simp_all
     obtain⟨C',aF,hO⟩:=ok.obj id _ an;rw[hC] at aF;cases aF;exact⟨_,look id C hC i e,h1,by simp,fun _=>h (by rw[hO.1,iT])⟩
   ·exact h1
 |map id=>
  dsimp only;obtain⟨C,B,hC,h⟩:=h;cases e:(fu id ids 0).map (base+·) with
  |none=>exact h1
  |some i=>exact⟨_,B,look id C hC i e,h⟩
 |fn f cap=>
  dsimp only;obtain⟨cv,rfl,h⟩:=h;split
  ·rename_i c hc;refine⟨cv,rfl,?_⟩;have:=J5 _ _ _ hc;generalize cv.toList=l at h;clear hc h1
   induction cap generalizing c l with
   |nil=>cases c with
    |nil=>cases l with
     |nil=>trivial
     |cons _ _=>exact h.elim
    |cons _ _=>exact this.elim
   |cons x cap ih=>cases c with
    |nil=>exact this.elim
    |cons y c=>cases l with
     |nil=>exact h.elim
     |cons u l=>
      obtain⟨⟨C,B,hC,hh⟩,h⟩:=h;exact⟨⟨_,B,look x C hC y this.1,hh⟩,ih c this.2 l h⟩
  rfl
 |fsl sh t xs=>exact h
 |fptr sh t x off=>exact h
 |_=>exact h
theorem Kg {M}(ok:Ok M){base ids}:∀{cs vs},zO (qA M) cs vs→zO (qA (M.ren base ids)) (cs.map (xf M.h fun i=>(fu i ids 0).map (base+·))) vs
 |[],[],_=>trivial
 |_::_,_::_,h=>⟨W4 ok h.1,Kg ok h.2⟩
theorem W5 {M}(ok:Ok M){base ids x v}(h:zX M x v):zX (M.ren base ids) (yHh M.h (fun i=>(fu i ids 0).map (base+·)) x) v:=by
 cases x with
 |undef=>trivial
 |skp=>exact h
 |c x=>exact W4 (c:=x) ok h
 |agg cs=>
  obtain⟨vs,h1,h2⟩:=h;exact⟨vs,h1,Kg ok h2⟩
 |tup xs=>
  obtain⟨vs,h1,h2⟩:=h;refine⟨vs,h1,zO.map_left (h2.mono fun p u hp=>?_)⟩;obtain⟨b,cs⟩:=p;cases b with
  |true=>
   obtain⟨us,q1,q2⟩:=hp;exact⟨us,q1,Kg ok q2⟩
  |false=>
   cases cs with
   |nil=>exact hp
   |cons c cs=>cases cs with
    |nil=>exact W4 (c:=c) ok hp
    |cons _ _=>exact hp
theorem yUn {M}(ok:Ok M){base ids o C}(h:vC M o C):vC (M.ren base ids) (xg M.h (fun i=>(fu i ids 0).map (base+·)) o) {C with ver:=0}:=by
 cases o with
 |box own cells=>
  obtain⟨B,vals,e,h1,h2,h3,h4,h5⟩:=h;exact⟨B,vals,e,h1,h2,h3,Kg ok h4,h5⟩
 |robox cells=>
  obtain⟨B,vals,e,h1,h2,h3,h4,h5⟩:=h;exact⟨B,vals,e,h1,h2,h3,Kg ok h4,h5⟩
 |arr own t xs=>exact h
 |mat ver xs=>
  obtain⟨h1,h2⟩:=h;exact⟨rfl,h2⟩
 |pmat ver xs n=>
  obtain⟨h1,h2⟩:=h;exact⟨rfl,h2⟩
 |imap df=>exact h
 |gone=>trivial
theorem W6 {h ρ} o:(xg h ρ o).owned=o.owned:=by cases o<;>rfl
theorem zN.ren_ok {M}(ok:Ok M){base ids}(dJ:ids.Nodup):Ok (M.ren base ids)∧∀b,qU (M.ren base ids) b→qU M b:=by
 have at':∀n o,(M.ren base ids).h n=some o→∃id o' C,base≤n∧ids[n-base]? =some id∧M.h id=some o'∧M.κ id=some C∧o=xg M.h (fun i=>(fu i ids 0).map (base+·)) o'∧vC M o' C∧(M.ren base ids).κ n=some {C with ver:=0}:=fun n o h=>by
  obtain⟨id,o',h1,h2,h3,h4⟩:=W3 h;obtain⟨C,hC,hO⟩:=ok.obj id _ h3;refine⟨id,o',C,h1,h2,h3,hC,h4,hO,?_⟩;show qa base M.κ ids n=_;unfold qa;simp_all
 have nO:∀b,qU (M.ren base ids) b→qU M b:=fun b ⟨n,o,C,h1,h2,h3,h4⟩=>by
  obtain⟨id,o',C',k1,k2,k3,k4,k5,k6,k7⟩:=at' n o h1;rw[k7] at h3;cases h3;exact⟨id,o',C',k3,by rw[←h2,k5,W6],k4,h4⟩
 refine⟨⟨fun n o h=>?_,fun n h=>?_,fun i j oi oj Ci Cj b mZ h1 h2 h3 h4 h5 h6 h7 h8=>?_,fun b h=>ok.own b (nO b h),ok.GF,ok.Flt⟩,nO⟩
 ·obtain⟨id,o',C,k1,k2,k3,k4,rfl,k6,k7⟩:=at' n o h;exact⟨_,k7,yUn ok k6⟩
 ·show qa base M.κ ids n=none;unfold qa;split
  ·rename_i hb;split
   ·rename_i id an;have:M.h id=none:=by
     cases e:M.h id with
     |none=>rfl
     |some o=>
      have:(M.ren base ids).h n=some (xg M.h (fun i=>(fu i ids 0).map (base+·)) o):=by
       show Bb base M.h ids n=_;unfold Bb;rw[show Nat.ble base n=true from Nat.ble_eq_true_of_le hb,an];simp[e]
      simp_all
    rw[ok.non id this];rfl
   ·rfl
  ·rfl
 ·obtain⟨id,o',C,k1,k2,k3,k4,k5,k6,k7⟩:=at' i oi h1;obtain⟨jd,p',D,q1,q2,q3,q4,q5,q6,q7⟩:=at' j oj h2;rw[k7] at h5;rw[q7] at h6;cases h5;cases h6;refine ok.disj id jd o' p' C D b (fun e=>?_) k3 q3 (by rw[←h3,k5,W6]) (by rw[←h4,q5,W6]) k4 q4 h7 h8;have hi:=(List.getElem?_eq_some_iff.1 k2);have hj:=(List.getElem?_eq_some_iff.1 q2);have:=(List.getElem_inj (h₀:=hi.1) (h₁:=hj.1) dJ).1 (by omega);omega
theorem vBw:∀{a b},OF a b=true→a=b
 |[],[],_=>rfl
 |x::a,y::b,h=>by
  simp only[OF,Bool.and_eq_true] at h;rw[Nat.eq_of_beq_eq_true h.1,vBw h.2]
theorem vT9 {c v}(h:UH c v=true):c=.undef∨c=v:=by
 unfold UH at h;split at h
 ·simp
 ·simp
 ·simp
 ·simp
 ·simp
 ·simp_all
 ·simp_all
 ·simp_all
 ·simp only[Bool.and_eq_true] at h;exact .inr (by rw[Nat.eq_of_beq_eq_true h.1,vBw h.2])
 all_goals simp_all
theorem nW {α:Type}{c x}{y:α}(h:(bif c then x else none)=some y):c=true∧x=some y:=by
 grind
theorem uq {M}(ok:Ok M):∀{l cs d vs},mV l cs=some d→zO (qA M) cs vs→zO (qA M) (pO l d) vs
 |[],[],_,[],_,_=>trivial
 |.int k::l,c::cs,d,v::vs,h,hv=>by
  cases c<;>first|(cases h;done)|skip
  obtain⟨hk,h⟩:=nW h;split at h
  ·rename_i d' hd;cases h;refine⟨?_,uq ok hd hv.2⟩;rw[←tL hk];exact hv.1
  ·cases h
 |.bool::l,c::cs,d,v::vs,h,hv=>by
  cases c<;>first|(cases h)|skip
  unfold mV at h;split at h
  ·rename_i d' hd;cases h;exact⟨hv.1,uq ok hd hv.2⟩
  ·cases h
 |.dat sh t::l,c::cs,d,v::vs,h,hv=>by
  cases c<;>first|(cases h;done)|skip
  ·rename_i Jy s xs;obtain⟨hs,h⟩:=nW h;split at h
   ·rename_i ys d' hx hd;cases h;obtain⟨e,hx⟩:=lF hx;subst e;subst hx;refine⟨?_,uq ok hd hv.2⟩;have h1:qH M.H (bif Jy then M.G else M.F) (.sl s) xs (fun _=>some v):=hv.1;cases sh with
    |true=>
     have:Jy=true:=by simp_all
     subst this;exact h1
    |false=>cases Jy with
     |false=>exact h1
     |true=>exact vF ok.GF (by simp) _ _ _ _ (by simp) h1
   ·cases h
  ·unfold mV at h;split at h
   ·rename_i d' hd;cases h;refine⟨?_,uq ok hd hv.2⟩;rw[show v=.slice none 0 0 from hv.1];exact⟨none,0,0,rfl,rfl,by simp,by simp⟩
   ·cases h
 |.lit c::l,x::cs,d,v::vs,h,hv=>by
  obtain⟨he,h⟩:=nW h;refine⟨?_,uq ok h hv.2⟩;rcases vT9 he with rfl|rfl
  ·exact hv.1.one
  ·exact hv.1
theorem W7 {M}(ok:Ok M){v a d rv}(h:UI v a=some d)(hv:zX M a rv):zX M (UJ v d) rv:=by
 cases v with
 |c x=>
  cases a with
  |c y=>
   have:=uq ok (vs:=[rv]) (show mV [x] [y]=some d from h) ⟨hv,trivial⟩;show zX M (match pO [x] d with|c::_=>.c c|[]=>.undef) rv
   match hh:pO [x] d,this with
   |[c],this=>exact this.1
  |_=>cases h
 |agg l=>
  cases a with
  |agg vs=>
   obtain⟨us,rfl,hx⟩:=hv;exact⟨us,rfl,uq ok (show mV l vs=some d from h) hx⟩
  |_=>cases h
theorem vPm {M}(ok:Ok M){o x d C}(h:OG o x=some d)(hO:vC M x C)(hv:C.ver=0):vC M (OH o d) C∧(OH o d).owned=x.owned:=by
 unfold OG at h;split at h
 ·obtain⟨he,h'⟩:=nW h;have he:=eq_of_beq he;subst he;clear h;obtain⟨B,vals,e,h1,h2,h3,h4,h5⟩:=hO;exact⟨⟨B,vals,e,h1,h2,h3,uq ok h' h4,h5⟩,rfl⟩
 ·obtain⟨B,vals,e,h1,h2,h3,h4,h5⟩:=hO;exact⟨⟨B,vals,e,h1,h2,h3,uq ok h h4,h5⟩,rfl⟩
 ·obtain⟨he,h'⟩:=nW h;have he:=eq_of_beq he;subst he;obtain⟨e,hx⟩:=lF h';subst e;subst hx;exact⟨hO,rfl⟩
 ·cases h;exact⟨⟨hv,hO.2⟩,rfl⟩
 ·cases h;exact⟨⟨hv,hO.2⟩,rfl⟩
 ·cases h;exact⟨hO,rfl⟩
 ·cases h
theorem yOb {f t}:∀{l d n v},OP f t l=some d→(DV l d).lookup n=some v→∃(s:VS) (x:SL s.cells),UI s (f (t n))=some x∧v=UJ s x
 |s::l,d,n,v,hr,h=>by
  unfold OP at hr;split at hr
  ·rename_i x ds h1 h2;cases hr;unfold DV at h;rw[List.lookup_cons] at h;cases e:n==s.1 with
   |true=>
    grind
   |false=>
    rw[e] at h;exact yOb h2 h
  ·cases hr
theorem yZo {f h0}:∀{l ids d},OQ f h0 l ids=some d→(tR l d).length=ids.length∧∀(i:Nat) o,(tR l d)[i]? =some o→∃(s:OS) (x:s.den) (id:Nat) (y:Obj),ids[i]? =some id∧h0 id=some y∧OG s (f y)=some x∧o=OH s x
 |[],[],d,_=>⟨rfl,nofun⟩
 |s::l,id::ids,d,h=>by
  unfold OQ at h;split at h
  ·rename_i x ds h1 h2;cases h;obtain⟨y,h3,h4⟩:=Option.bind_eq_some_iff.1 h1;obtain⟨k1,k2⟩:=yZo h2;refine⟨by simp[tR,k1],fun i o hi=>?_⟩;cases i with
   |zero=>
    simp[tR] at hi;grind
   |succ i=>
    simp[tR] at hi;simp_all
  ·cases h
theorem vPq {g0 base n:Nat}{S:zE}{st:St}{d:S.den}(r:vY false na nt a0 M0 w0 st a w)(h:UQ g0 base n S st=some d):vY false na nt a0 M0 w0 (zM base S d) a w:=by
 unfold UQ at h;split at h
 ·cases h
 rename_i Kh hg;have r:=yY7 r hg;dsimp only at h;generalize kK:DY Kh.h n _ []=ids at h;have dJ:ids.Nodup:=by rw[←kK];exact W2 n List.nodup_nil
 split at h
 case h_2=>cases h
 rename_i da db ha hb;cases h;obtain⟨M,h1,h2,h3,h4,h5⟩:=r.ex;rw[←h1] at ha hb;obtain⟨k1,k2⟩:=M.ren_ok h3 (base:=base) dJ;obtain⟨ol,oa⟩:=yZo hb;let M':zN:={M.ren base ids with h:=(zM base S (da,db)).h};have Pw:∀n o',M'.h n=some o'→∃o C,(M.ren base ids).h n=some o∧M'.κ n=some C∧vC (M.ren base ids) o' C∧o'.owned=o.owned:=fun m o' e=>by
  have e:(bif Nat.ble base m then(tR S.objs db)[m-base]? else none)=some o':=e;obtain⟨hle,e⟩:=nW e;obtain⟨s,x,id,y,q1,q2,q3,rfl⟩:=oa _ _ e;obtain⟨C,hC,hO⟩:=h3.obj id y q2;have hκ:(M.ren base ids).κ m=some {C with ver:=0}:=by
   show qa base M.κ ids m=_;unfold qa;simp_all
  have hh:(M.ren base ids).h m=some (xg M.h (fun i=>(fu i ids 0).map (base+·)) y):=by
   show Bb base M.h ids m=_;unfold Bb;grind
  obtain⟨p1,p2⟩:=vPm k1 q3 (yUn h3 hO) rfl;grind
 have x:yV (M.ren base ids) M':=⟨fun _ C h=>⟨C,h,C.le_refl⟩,fun _ h=>h,fun _ h=>h,fun _ _=>rfl,by grind,fun _ _=>rfl⟩;have aN:∀b,qU M' b→qU (M.ren base ids) b:=fun b ⟨id,o',C,q1,q2,q3,q4⟩=>by
  obtain⟨o,D,p1,p2,p3,p4⟩:=Pw id o' q1;exact⟨id,o,C,p1,by rw[←p4];exact q2,q3,q4⟩
 have gV:Ok M':=by
  refine⟨fun id o' q=>?_,fun id q=>?_,fun i j oi oj Ci Cj b mZ q1 q2 q3 q4 q5 q6 q7 q8=>?_,fun b hb=>k1.own b (aN b hb),k1.GF,k1.Flt⟩
  ·obtain⟨o,C,p1,p2,p3,p4⟩:=Pw id o' q;exact⟨C,p2,p3.ext x (by grind)⟩
  ·have q:(bif Nat.ble base id then(tR S.objs db)[id-base]? else none)=none:=q;show qa base M.κ ids id=none;unfold qa;cases hle:Nat.ble base id with
   |false=>rw[if_neg fun h=>by rw[Nat.ble_eq_true_of_le h] at hle;cases hle]
   |true=>
    simp_all
  ·obtain⟨o1,C1,p1,p2,p3,p4⟩:=Pw i oi q1;obtain⟨o2,C2,p5,p6,p7,p8⟩:=Pw j oj q2;exact k1.disj i j o1 o2 Ci Cj b mZ p1 p5 (by rw[←p4];exact q3) (by rw[←p8];exact q4) q5 q6 q7 q8
 refine⟨⟨M',rfl,h2,gV,h4.trans (.same_mem rfl rfl rfl (by grind)),fun m=>?_⟩,r.defers,r.size,r.os,r.tape,r.output,r.keep⟩;show zX M' (match(DV S.slots da).lookup m with|some v=>v|none=>.undef) _;cases hl:(DV S.slots da).lookup m with
 |none=>trivial
 |some v=>
  obtain⟨s,y,q1,rfl⟩:=yOb ha hl;exact(W7 k1 q1 (W5 h3 (h5 m))).ext x
theorem Px {pre S st d}(r:vY false na nt a0 M0 w0 st a w)(h:JA pre S st=some d):vY false na nt a0 M0 w0 (zM (pre+iA) S d) a w:=vPq r h
end
end Go.Ab
set_option linter.unusedSectionVars false
namespace Go.Ab
def Ex.toExit:Ex→Exit
 |.normal=>.normal
 |.ret=>.ret
 |.exit id=>.exit id
theorem vCs {P Q c}(I:Nat→Act→World→Prop)(round:∀n a w,I n a w→c.wp P (Exit.then (fun a' w'=>∃m,m<n∧I m a' w') Q) a w){n a w}(h₀:I n a w):(Code.loop c).wp P Q a w:=by
 intro b k cs;have key:∀n a w,I n a w→∃e a' w',Q e a' w'∧Arrives P (lone (b.at a (.code c::.inLoop c::k)) cs w) b k cs e a' w':=by
  intro n
  induction n using Nat.strongRecOn with
  |_ n ih=>
   intro a w hI;obtain⟨e,a₁,w₁,hq,kO⟩:=round n a w hI b (.inLoop c::k) cs;cases e with
   |normal=>
    obtain⟨m,hm,hI₁⟩:=hq;obtain⟨e₂,a₂,w₂,hq₂,harr₂⟩:=ih m hm a₁ w₁ hI₁;exact⟨e₂,a₂,w₂,hq₂,.of_steps (Steps.trans kO (.one step_inLoop)) harr₂⟩
   |exit id=>exact⟨_,a₁,w₁,hq,.pass (x:=.inLoop c) rfl (by simp) kO⟩
   |goto l=>exact⟨_,a₁,w₁,hq,.pass (x:=.inLoop c) rfl (by simp) kO⟩
   |ret=>exact⟨_,a₁,w₁,hq,.pass (x:=.inLoop c) rfl (fun _ _=>.inl (by simp)) kO⟩
   |panic ch=>exact⟨_,a₁,w₁,hq,.pass (x:=.inLoop c) rfl (fun _ _=>.inl (by simp)) kO⟩
   |outgrown=>exact⟨_,a₁,w₁,hq,.pass (x:=.inLoop c) rfl (by simp) kO⟩
 obtain⟨e,a',w',hq,kO⟩:=key n a w h₀;exact⟨e,a',w',hq,.of_steps (.one step_loop) kO⟩
def Py (tmps:Array Value):ResultVar→Sem Value
 |.tmp t=>pure (tmps.getD t undef)
 |.cell c t=>do loadVar t (←asAddr (tmps.getD c undef))
def BF (base:Nat):(l:List (Ex×zE))→xc l→Ex×St
 |[],d=>(.normal,⟨fun _=>.undef,fun _=>none⟩)
 |[p],d=>(p.1,zM base p.2 d)
 |p::q::l,d=>match d with
  |.inl d=>(p.1,zM base p.2 d)
  |.inr d=>BF base (q::l) d
theorem yMx {R base K}{out:R}:∀{l d},D4 base l d K=some out→K (BF base l d).1 (BF base l d).2=some out
 |[p],_,h
 |p::q::l,.inl d,h=>h
 |p::q::l,.inr d,h=>yMx (l:=q::l) h
def Ki (base:Nat):(l:List zE)→pP l→St
 |[],_=>⟨fun _=>.undef,fun _=>none⟩
 |[S],d=>zM base S d
 |S::T::l,d=>match d with
  |.inl d=>zM base S d
  |.inr d=>Ki base (T::l) d
theorem vGc {R base K}{out:R}:∀{l d},OR base l d K=some out→K (Ki base l d)=some out
 |[S],_,h
 |S::T::l,.inl d,h=>h
 |S::T::l,.inr d,h=>vGc (l:=T::l) h
def zT (P:Program)(pre na nt:Nat)(b:Code)(L:zU):Prop:=∀k d x,L.sum k d=some x→∀(a0:Nat→Value) (M0:zN) (w0:World) (a:Act) (w:World) (Q:Exit→Act→World→Prop),
 vY false na nt a0 M0 w0 (Ki (pre+iA) L.ins d) a w→
 (∀(o:xc L.outs) a' w',(∀R K,L.elim (pre+iA) x R K=D4 (pre+iA) L.outs o K)→vY false na nt a0 M0 w0 (BF (pre+iA) L.outs o).2 a' w'→Q (BF (pre+iA) L.outs o).1.toExit a' w')→
 (Code.loop b).wp P Q a w
def wS (P:Program)(A:zV)(pre na nt:Nat):Code→Prop
 |.seq a b=>wS P A pre na nt a∧wS P A pre na nt b
 |.cond _ a b=>wS P A pre na nt a∧wS P A pre na nt b
 |.block _ b=>wS P A pre na nt b
 |.loop b=>(∀L,xh A b=some L→zT P pre na nt b L)∧(xh A b=none→wS P A pre na nt b)
 |_=>True
theorem vGl {A c b st}(h:st.ev c=.c (.bool b)):OT A c b st=st:=by
 unfold OT;split
 ·rw[WH h]
 ·rfl
section
variable {nl:Bool} {E:Env} {A:zV} {k pre na nt:Nat} {a0:Nat→Value} {R:Type} {M0:zN} {w0:World} {out:R}
theorem W8 {a w st}(r:vY false na nt a0 M0 w0 st a w):∀{l x},DZ pre l st=some x→vY false na nt a0 M0 w0 (Ki (pre+iA) l x) a w
 |[S],x,h=>Px r h
 |S::T::l,x,h=>by
  unfold DZ at h;split at h
  ·rename_i d hd;cases h;exact Px r hd
  ·split at h
   ·rename_i d hd;cases h;exact W8 r (l:=T::l) hd
   ·cases h
theorem yIi (hE:gD E)(hS:kg E.sums)(hm:E.P.follows .mixedOrders=true)(Pj:nl=true→A.loops=[]):∀c,wS E.P A pre na nt c→∀st K a w Q,kF E A k pre na nt c st K=some out→vY nl na nt a0 M0 w0 st a w→
  (∀e bJ a' w',vY nl na nt a0 M0 w0 bJ a' w'→K e bJ=some out→Q e.toExit a' w')→c.wp E.P Q a w:=by
 intro c
 induction c with
 |skip=>exact fun _ st K a w Q h r hK=>wp_skip (hK .normal st a w r h)
 |region id ops draw=>
  intro _ st K a w Q h r hK;cases draw with
  |true=>
   cases he:Jz ops with
   |false=>simp only[kF,he] at h;cases h
   |true=>
    simp only[kF,he] at h;exact WZ hE hS hm he h r fun bJ a' w' r' h'=>hK .normal bJ a' w' r' h'
  |false=>
   have:=vCe hE (Q:=Q) _ _ _ _ a w (by grind) h r fun bJ a' w' r' h'=>hK .normal bJ a' w' r' h'
   refine wp_region ?_;have e:(ops.toList.zipIdx.map fun p=>(p.2,p.1)).map (·.1)=List.range ops.size:=by
    rw[List.map_map];have e2:((fun x:Nat×Oper=>x.1)∘fun p:Oper×Nat=>(p.2,p.1))=Prod.snd:=rfl;rw[e2,List.zipIdx_map_snd,←List.range_eq_range'];simp
   simp_all
 |seq x y W9 Xa=>
  intro hL st K a w Q h r hK;simp only[kF] at h;refine wp_seq (W9 hL.1 st _ a w _ h r fun e bJ a' w' r' h'=>?_);cases e with
  |normal=>exact Xa hL.2 bJ K a' w' Q h' r' hK
  |ret=>exact hK .ret bJ a' w' r' h'
  |exit id=>exact hK (.exit id) bJ a' w' r' h'
 |cond c x y W9 Xa=>
  intro hL st K a w Q h r hK;simp only[kF] at h;split at h
  ·rename_i t ht;obtain⟨M,_,_,_,_,hv⟩:=r.ex;have hc:=vNh hv c;rw[ht] at hc;refine wp_cond (t:=t) hc ?_;cases t with
   |true=>
    rw[vGl ht,cond_true] at h;exact W9 hL.1 st K a w Q h r hK
   |false=>
    rw[vGl ht,cond_false] at h;exact Xa hL.2 st K a w Q h r hK
  ·cases h
 |block id b ih=>
  intro hL st K a w Q h r hK;simp only[kF] at h;refine wp_block (ih hL st _ a w _ h r fun e bJ a' w' r' h'=>?_);cases e with
  |normal=>exact hK .normal bJ a' w' r' h'
  |ret=>exact hK .ret bJ a' w' r' h'
  |exit i=>
   show if i=id then Q .normal a' w' else Q (.exit i) a' w'
   dsimp only at h';cases e:Nat.beq i id with
   |true=>
    rw[e] at h';rw[if_pos (by simpa using e)];exact hK .normal bJ a' w' r' h'
   |false=>
    rw[e] at h';rw[if_neg (fun e'=>by simp_all)];exact hK (.exit i) bJ a' w' r' h'
 |loop b ih=>
  intro hL st K a w Q h r hK;simp only[kF] at h;split at h
  ·rename_i hN;refine vCs (fun n a w=>∃st,vY nl na nt a0 M0 w0 st a w∧US (kF E A k pre na nt b) n st K=some out) (fun n a w ⟨st,r,hi⟩=>?_) ⟨st,r,h⟩;cases n with
   |zero=>cases hi
   |succ n=>
    refine ih (hL.2 hN) st _ a w _ hi r fun e bJ a' w' r' h'=>?_
    cases e with
    |normal=>exact⟨n,by simp,bJ,r',h'⟩
    |ret=>exact hK .ret bJ a' w' r' h'
    |exit id=>exact hK (.exit id) bJ a' w' r' h'
  ·rename_i L hN;split at h
   ·cases h
   ·rename_i d hd;obtain⟨x,hx,h⟩:=Option.bind_eq_some_iff.1 h;cases nl with
    |true=>
     unfold xh at hN;grind
    |false=>exact hL.1 L hN k d x hx a0 M0 w0 a w Q (W8 r hd) fun o a' w' ho r'=>hK _ _ a' w' r' (yMx (by simp_all))
 |exit id=>exact fun _ st K a w Q h r hK=>wp_exit (hK (.exit id) st a w r h)
 |ret=>exact fun _ st K a w Q h r hK=>wp_ret (hK .ret st a w r h)
 |_=>nofun
theorem yUi {a b}(h:UK a b=true):a=b:=by
 cases a<;>cases b<;>first|rfl|(cases h)|skip
 rw[Nat.eq_of_beq_eq_true h]
theorem yM8 {a w st e}(r:vY false na nt a0 M0 w0 st a w):∀{l x},JB pre l e st=some x→(BF (pre+iA) l x).1=e∧vY false na nt a0 M0 w0 (BF (pre+iA) l x).2 a w
 |[p],x,h=>by
  obtain⟨he,h⟩:=nW h;exact⟨yUi he,Px r h⟩
 |p::q::l,x,h=>by
  unfold JB at h;split at h
  ·rename_i d hd;cases h;obtain⟨he,hd⟩:=nW hd;exact⟨yUi he,Px r hd⟩
  ·split at h
   ·rename_i d hd;cases h;exact yM8 r (l:=q::l) hd
   ·cases h
theorem Xb (hE:gD E)(hS:kg E.sums)(hm:E.P.follows .mixedOrders=true){b ins outs}(hL:wS E.P A pre na nt b){X} mW elim (hX:∀o R K,elim (pre+iA) (mW o) R K=D4 (pre+iA) outs o K)
  (rec:Nat→Nat→pP ins→Option X) (h0:∀k d,rec k 0 d=none)
  (aI:∀k n d,rec k (n+1) d=OR (pre+iA) ins d fun st=>kF E A k pre na nt b st (yYj pre ins outs mW (rec k n))):zT E.P pre na nt b ⟨ins,outs,X,fun k d=>rec k k d,elim⟩:=by
 intro k d x hx a0 M0 w0 a w Q r hQ;refine vCs (fun n a w=>∃d,vY false na nt a0 M0 w0 (Ki (pre+iA) ins d) a w∧rec k n d=some x) (fun n a w ⟨d,r,hi⟩=>?_) ⟨d,r,hx⟩;cases n with
 |zero=>simp_all
 |succ n=>
  rw[aI k n d] at hi;refine yIi hE hS hm (by simp) b hL _ _ a w _ (vGc hi) r fun e bJ a' w' r' h'=>?_
  have out:∀e,(match JB pre outs e bJ with|some o=>some (mW o)|none=>none)=some x→Q e.toExit a' w':=fun e h'=>by
   split at h'
   ·rename_i o ho;obtain⟨h1,h2⟩:=yM8 (pre:=pre) r' ho;grind
   ·cases h'
  cases e with
  |normal=>
   have h':(match DZ pre ins bJ with|some d=>rec k n d|none=>none)=some x:=h';split at h'
   ·rename_i d' hd;exact⟨n,by simp,d',W8 r' hd,h'⟩
   ·cases h'
  |ret=>exact out .ret h'
  |exit id=>exact out (.exit id) h'
theorem Xc fn tmps:results fn tmps=(do let vs←fn.results.mapM (Py tmps);pure (if h:vs.size=1 then vs[0] else .tuple vs)):=rfl
theorem Xd (hE:gD E)(hS:kg E.sums)(hm:E.P.follows .mixedOrders=true){st}{a:Act}{w x v M}(hM:M.h=st.h)(hH:M.H=w.heap)(ok:Ok M)(ht:∀t,zX M (st.t t) (a.tmps.getD t undef))(h:xi E st x=some v):
  ∃rv,(Py a.tmps x).run E.P w=.ok rv w∧zX M v rv:=by
 unfold xi at h;split at h
 ·rename_i t;cases h;exact⟨_,rfl,ht t⟩
 ·rename_i c t;split at h
  ·rename_i id off hc;split at h
   ·split at h
    ·rename_i vs eZ;have hv:=ht c;rw[hc] at hv;obtain⟨C,B,hC,hB,e⟩:=hv;obtain⟨C',aF,hO⟩:=ok.obj id _ (by rw[hM];omega);rw[hC] at aF;cases aF;obtain⟨B',fx,aH⟩:=yUy hO;rw[hB] at fx;cases fx;obtain⟨rv2,nV,dv⟩:∃rv,(loadVar t ⟨B,0+off,none⟩).run E.P w=.ok rv w∧zX M v rv:=yZ8 ok hH aH eZ h;refine⟨rv2,?_,dv⟩;simp  at nV;unfold Py;dsimp only;rw[e];simp[asAddr,nV]
    ·cases h
   ·cases h
  ·cases h
theorem Xe {M v p rv}(h:D5 v=some p)(hv:zX M v rv):xj M p rv:=by
 unfold D5 at h;split at h
 ·cases h;exact hv
 ·cases h;exact hv
 ·cases h
theorem vH8 {M}:∀{vs xs rs},zO (fun a b=>D5 a=some b) vs xs→zO (zX M) vs rs→zO (xj M) xs rs
 |[],[],[],_,_=>trivial
 |_::_,_::_,_::_,h,k=>⟨Xe h.1 k.1,vH8 h.2 k.2⟩
theorem yOf {st}:∀(l:List ResultVar) xs,l.mapM (fun r=>(xi E st r).bind D5)=some xs→∃vs,l.mapM (xi E st)=some vs∧vs.mapM D5=some xs
 |[],xs,h=>by simp_all
 |x::l,xs,h=>by
  simp only[List.mapM_cons,Option.bind_eq_bind,Option.bind_eq_some_iff] at h;obtain⟨p,⟨v,h1,h2⟩,ps,h3,h4⟩:=h;obtain⟨vs,k1,k2⟩:=yOf l ps h3;simp_all
theorem vUy (hE:gD E)(hS:kg E.sums)(hm:E.P.follows .mixedOrders=true){fn st}{a:Act}{w v M}(hM:M.h=st.h)(hH:M.H=w.heap)(ok:Ok M)(ht:∀t,zX M (st.t t) (a.tmps.getD t undef))(h:OU E fn st=some v):
  ∃rv,(results fn a.tmps).run E.P w=.ok rv w∧zX M v rv:=by
 have one:=fun x v=>Xd hE hS hm (x:=x) (v:=v) hM hH ok ht
 have key:∀(l:List ResultVar) (vs:List zZ),l.mapM (xi E st)=some vs→∃rs:List Value,(l.mapM (Py a.tmps)).run E.P w=.ok rs w∧zO (zX M) vs rs:=by
  intro l
  induction l with
  |nil=>exact fun vs h=>by simp at h;subst h;exact⟨[],rfl,trivial⟩
  |cons x l ih=>
   intro vs h;simp[Option.bind_eq_some_iff] at h;obtain⟨v,h1,Vn,h2,h3⟩:=h;cases h3;obtain⟨rv,k1,k2⟩:=one x v h1;obtain⟨rs,k3,k4⟩:=ih Vn h2;refine⟨rv::rs,?_,k2,k4⟩;simp_all
 have run:∀(vs:List zZ),fn.results.toList.mapM (xi E st)=some vs→∃rs:List Value,(results fn a.tmps).run E.P w=.ok (if h:rs.length=1 then rs[0] else .tuple rs.toArray) w∧zO (zX M) vs rs:=fun vs h=>by
  obtain⟨rs,k1,k2⟩:=key _ vs h;refine⟨rs,?_,k2⟩;rw[Xc,Array.mapM_eq_mapM_toList];simp_all
 unfold OU at h;split at h
 ·cases h;obtain⟨rs,k1,k2⟩:=run [] (by simp_all);cases rs with
  |cons _ _=>exact k2.elim
  |nil=>exact⟨_,k1,#[],rfl,trivial⟩
 ·obtain⟨rs,k1,k2⟩:=run [v] (by simp_all)
  match rs,k2 with
  |[r],k2=>exact⟨_,k1,k2.1⟩
 ·split at h
  ·rename_i xs J6;cases h;obtain⟨vs,k1,k2⟩:=yOf _ _ J6;obtain⟨rs,r1,r2⟩:=run vs k1;have hlen:rs.length≠1:=fun e=>by
    have e1:=r2.length;have e2:=(J5 _ _ _ k1).length;have h3:fn.results.toList.length=1:=by omega
    match hl:fn.results.toList,h3 with
    |[x],_=>simp_all
   rw[dif_neg hlen] at r1;exact⟨_,r1,rs.toArray,rfl,vH8 (J5 _ _ _ k2) r2⟩
  ·cases h
theorem Xf (hE:gD E)(hS:kg E.sums)(hm:E.P.follows .mixedOrders=true){f fn}(hf:E.P.funcs[f]? =some fn)(hL:∀c,fn.body=some c→wS E.P A pre na fn.ntmps c){args h K}(aW:kG E A k pre na fn args h K=some out){M w vs}(hh:M.h=h)(hH:M.H=w.heap)(ok:Ok M)
  (hv:zO (zX M) args vs.toList):Calls E.P f vs w fun
   |.returned rv,w'=>∃(M':zN) (v:zZ) (st:St),K v st=some out∧M'.h=st.h∧M'.H=w'.heap∧Ok M'∧kh M M'∧(A.loops=[]→Pq M M')∧zX M' v rv∧w'.os=w.os∧w'.tape=w.tape∧w'.output=w.output∧
     (∀t,t<na→zX M' (st.t t) (vs.getD t undef))
   |_,_=>False:=by
 unfold kG at aW;cases hb:fn.body with
 |none=>simp_all
 |some c=>
  rw[hb] at aW;dsimp only at aW;cases hle:Nat.ble args.length fn.ntmps with
  |false=>simp_all
  |true=>
   rw[hle] at aW;rw[cond_true] at aW;have hl:=hv.length;have hle:args.length≤fn.ntmps:=Nat.le_of_ble_eq_true hle;have dH:vs.size≤fn.ntmps:=by simp at hl;omega
   have Kj:∀t,zX M (OV args t) ((vs++Array.replicate (fn.ntmps-vs.size) undef).getD t undef):=fun t=>by
    unfold OV;by_cases ht:t<args.length
    ·have Xg:t<vs.size:=by simp at hl;omega
     have:=hv.get t ht (by simpa using Xg);simp only[List.getD_eq_getElem?_getD,List.getElem?_eq_getElem ht,Option.getD_some];simp only[Array.getD_eq_getD_getElem?,Array.getElem?_append_left Xg,Array.getElem?_eq_getElem Xg,Option.getD_some]
     simpa using this
    ·simp only[List.getD_eq_getElem?_getD,List.getElem?_eq_none (Nat.not_lt.1 ht),Option.getD_none];show _=undef;simp;grind
   have r:vY A.loops.isEmpty na fn.ntmps (fun t=>(vs++Array.replicate (fn.ntmps-vs.size) undef).getD t undef) M w {t:=OV args,h:=h} {tmps:=vs++Array.replicate (fn.ntmps-vs.size) undef,defers:=[]} w:=
    ⟨⟨M,hh,hH,ok,⟨.refl M,fun _ _ C h=>⟨C,h,rfl⟩⟩,Kj⟩,rfl,by simp;omega,rfl,rfl,rfl,fun _ _=>rfl⟩
   refine calls_of_wp hf hb (yIi hE hS hm (by simp) c (hL c hb) _ _ _ _ _ aW r fun e bJ a' w' r' hK=>?_);obtain⟨M',q1,q2,q3,q4,q5⟩:=r'.ex;have fin:∀v,OU E fn bJ=some v→K v bJ=some out→a'.defers=[]∧∃rv,(results fn a'.tmps).run E.P w'=.ok rv w'∧∃(M':zN) (v:zZ) (st:St),K v st=some out∧M'.h=st.h∧M'.H=w'.heap∧Ok M'∧kh M M'∧(A.loops=[]→Pq M M')∧zX M' v rv∧w'.os=w.os∧w'.tape=w.tape∧w'.output=w.output∧
     (∀t,t<na→zX M' (st.t t) (vs.getD t undef)):=fun v kP hK=>by
    obtain⟨rv,k1,k2⟩:=vUy hE hS hm q1 q2 q3 q5 kP;refine⟨r'.defers,rv,k1,M',v,bJ,hK,q1,q2,q3,q4.g,fun h=>q4.k (by grind),k2,r'.os,r'.tape,r'.output,fun t ht=>?_⟩;have:=q5 t;rw[r'.keep t ht] at this;have e:(vs++Array.replicate (fn.ntmps-vs.size) undef).getD t undef=vs.getD t undef:=by
     by_cases h1:t<vs.size
     ·simp[Array.getD_eq_getD_getElem?,Array.getElem?_append_left h1]
     ·simp;grind
    simp_all
   cases e with
   |exit id=>cases hK
   |normal=>
    dsimp only at hK;split at hK
    ·rename_i v kP;exact fin v kP hK
    ·cases hK
   |ret=>
    dsimp only at hK;split at hK
    ·rename_i v kP;exact fin v kP hK
    ·cases hK
end
inductive PC where
 |int (k:IntKind)|bool|dat (sh:Bool) (t:Ty)|fn (f:Nat)
 |nil|nilp
abbrev PC.den:PC→Type
 |.int _=>Int|.bool=>Bool|.dat _ t=>List t.den|.fn _=>Unit|.nil=>Unit|.nilp=>Unit
abbrev PL:List PC→Type
 |[]=>Unit
 |p::l=>p.den×PL l
inductive AS where
 |c (p:PC)|agg (l:List PC)|ptr (l:List PC)|fn (f:Nat) (bA:List (List PC))
def AS.cells:AS→List PC
 |.c p=>[p]
 |.agg l=>l
 |.ptr l=>l
 |.fn _ bA=>bA.flatten
abbrev AD (l:List AS):Type:=PL (l.flatMap AS.cells)
def BG (h:Hp)(t:Ty):qC→Option (List t.den)
 |.nsl=>some []
 |c=>match kE h c with
  |some ⟨s,xs⟩=>iu s t xs
  |none=>none
def ur (h:Hp):(p:PC)→qC→Option p.den
 |.int k,.int j n=>bif gx j k then some n else none
 |.bool,.bool b=>some b
 |.dat false t,c=>BG h t c
 |.dat true t,.fsl true s xs=>iu s t xs
 |.dat true t,.nsl=>some []
 |.fn f,.fn g []=>bif Nat.beq f g then some () else none
 |.nil,.nsl=>some ()
 |.nilp,.nilp=>some ()
 |_,_=>none
def BH (h:Hp):(l:List PC)→List qC→Option (PL l)
 |[],[]=>some ()
 |p::l,c::cs=>match ur h p c,BH h l cs with
  |some d,some ds=>some (d,ds)
  |_,_=>none
 |_,_=>none
def EB (h:Hp)(id:Nat):Option (List qC):=match h id with
 |some (.box _ cells)=>some cells
 |some (.robox cells)=>some cells
 |_=>none
def uu (h:Hp):List (List PC)→List Nat→Option (List qC)
 |[],[]=>some []
 |l::ls,id::ids=>match EB h id,uu h ls ids with
  |some cells,some rest=>bif Nat.beq cells.length l.length then some (cells++rest) else none
  |_,_=>none
 |_,_=>none
def AS.get (h:Hp):AS→zZ→Option (List qC)
 |.c _,.c x=>some [x]
 |.agg l,.agg xs=>bif Nat.beq xs.length l.length then some xs else none
 |.ptr l,.c (.ptr id 0)=>uu h [l] [id]
 |.fn f bA,.c (.fn g ids)=>bif Nat.beq f g then uu h bA ids else none
 |_,_=>none
def sE (h:Hp):List AS→List zZ→Option (List qC)
 |[],[]=>some []
 |s::l,a::as=>match s.get h a,sE h l as with
  |some cs,some rest=>some (cs++rest)
  |_,_=>none
 |_,_=>none
def BI (h:Hp) l (as:List zZ):Option (AD l):=match sE h l as with
 |some cs=>BH h (l.flatMap AS.cells) cs
 |none=>none
def EC:(p:PC)→p.den→qC
 |.int k,n=>.int k n
 |.bool,b=>.bool b
 |.dat sh t,xs=>.fsl sh t xs
 |.fn f,_=>.fn f []
 |.nil,_=>.nsl
 |.nilp,_=>.nilp
def wF:(l:List PC)→PL l→List qC
 |[],_=>[]
 |p::l,d=>EC p d.1::wF l d.2
def Pz:List (List PC)→List qC→List (List qC)
 |[],_=>[]
 |l::ls,cs=>cs.take l.length::Pz ls (cs.drop l.length)
def AS.mk (n:Nat)(cs:List qC):AS→zZ
 |.c _=>match cs with|x::_=>.c x|[]=>.undef
 |.agg _=>.agg cs
 |.ptr _=>.c (.ptr n 0)
 |.fn f bA=>.c (.fn f ((List.range bA.length).map (n+·)))
def AS.boxes (cs:List qC):AS→List (List qC)
 |.ptr _=>[cs]
 |.fn _ bA=>Pz bA cs
 |_=>[]
def mm:List AS→List qC→Nat→List zZ×List (List qC)
 |[],_,_=>([],[])
 |s::l,cs,n=>
  let aq:=cs.take s.cells.length;let bs:=s.boxes aq;let rest:=mm l (cs.drop s.cells.length) (n+bs.length)
  (s.mk n aq::rest.1,bs++rest.2)
def mn (bs:List (List qC)):Hp:=fun n=>match bs[n]? with
 |some cells=>some (.robox cells)
 |none=>none
def qb l (d:AD l):List zZ×Hp:=
 let r:=mm l (wF (l.flatMap AS.cells) d) 0
 (r.1,mn r.2)
inductive RC where
 |int (k:IntKind)|bool|fro (t:Ty)|own (t:Ty)|mat
 |jun
 |map
 |nilp|link (j:Nat)|nil
abbrev RC.den:RC→Type
 |.int _=>Int|.bool=>Bool|.fro t=>List t.den|.own t=>List t.den|.mat=>List (List Int)|.jun=>Nat|.map=>List (Int×Bool)|.nilp=>Unit|.link _=>Unit|.nil=>Unit
abbrev RL:List RC→Type
 |[]=>Unit
 |r::l=>r.den×RL l
inductive RS where
 |c (r:RC)|agg (l:List RC)|tup (l:List (Bool×List RC))
def RS.cells:RS→List RC
 |.c r=>[r]
 |.agg l=>l
 |.tup l=>l.flatMap (·.2)
def Xh:List (Bool×List RC)→List (Bool×List qC)→Option (List qC)
 |[],[]=>some []
 | (b, l) :: ls, (g, cs) :: rest => bif (bif b then g else !g && Nat.beq cs.length 1) && Nat.beq cs.length l.length then (match Xh ls rest with
   |some r=>some (cs++r)
   |none=>none) else none
 |_,_=>none
def RS.get:RS→zZ→Option (List qC)
 |.c _,.c x=>some [x]
 |.agg l,.agg xs=>bif Nat.beq xs.length l.length then some xs else none
 |.tup l,.tup xs=>Xh l xs
 |_,_=>none
def Xi:List (Bool×List RC)→List qC→List (Bool×List qC)
 |[],_=>[]
 |(b,l)::ls,cs=>(b,cs.take l.length)::Xi ls (cs.drop l.length)
def RS.mk (cs:List qC):RS→zZ
 |.c _=>match cs with|x::_=>.c x|[]=>.undef
 |.agg _=>.agg cs
 |.tup l=>.tup (Xi l cs)
def gF (h:Hp):List Bool→List qC→Option (List qC×vL)
 |true::l,c::cs=>match oS h c,gF h l cs with
  |some (c,u),some (cs,us)=>some (c::cs,u++us)
  |_,_=>none
 |false::l,c::cs=>match gF h l cs with
  |some (cs,us)=>some (c::cs,us)
  |none=>none
 |_,cs=>some (cs,[])
def RC.isFro:RC→Bool
 |.fro _=>true
 |_=>false
def PC.isKept:PC→Bool
 |.dat true _=>true
 |_=>false
def qc (h:Hp):(r:RC)→qC→Option r.den
 |.int k,.int j n=>bif gx j k then some n else none
 |.bool,.bool b=>some b
 |.fro t,.fsl true s xs=>iu s t xs
 |.fro t,.nsl=>some []
 |.own t,.osl id none=>match h id with
  |some (.arr true s xs)=>iu s t xs
  |_=>none
 |.own t,.osl id (some (0,n))=>match h id with
  |some (.arr true s xs)=>iu s t (xs.take n)
  |_=>none
 |.own t,.nsl=>some []
 |.mat,.osl id none=>match h id with
  |some (.mat _ xs)=>some xs
  |some (.pmat _ xs n)=>bif Nat.beq xs.length n then some xs else none
  |_=>none
 |.mat,.nsl=>some []
 |.jun,.osl id none=>match h id with
  |some (.arr true (.sl (.int .i64)) xs)=>some xs.length
  |_=>none
 |.jun,.nsl=>some 0
 |.map,.map id=>match h id with
  |some (.imap df)=>some df
  |_=>none
 |.nilp,.nilp=>some ()
 |.link _,.ptr _ 0=>some ()
 |.nil,.nsl=>some ()
 |_,_=>none
def kQ (h:Hp):(l:List RC)→List qC→Option (RL l)
 |[],[]=>some ()
 |r::l,c::cs=>match qc h r c,kQ h l cs with
  |some d,some ds=>some (d,ds)
  |_,_=>none
 |_,_=>none
def wO:List RC→List qC→List Nat
 |.own _::l,.osl id _::cs=>id::wO l cs
 |.mat::l,.osl id _::cs=>id::wO l cs
 |.jun::l,.osl id _::cs=>id::wO l cs
 |.map::l,.map id::cs=>id::wO l cs
 |_::l,_::cs=>wO l cs
 |_,_=>[]
def Kk (h:Hp)(s:RS)(v:zZ):Option (RL s.cells):=match s.get v with
 |some cs=>match gF h (s.cells.map RC.isFro) cs with
  |some (cs,u)=>bif tP (wO s.cells cs) then kQ (qL h u) s.cells cs else none
  |none=>none
 |none=>none
def nk (rs:RS){X:Type}(unpack:RL rs.cells→X)(v:zZ)(st:St):Option X:=match Kk st.h rs v with
 |some d=>some (unpack d)
 |none=>none
def sF (nm:Nat):(r:RC)→r.den→qC×vL
 |.int k,n=>(.int k n,[])
 |.bool,b=>(.bool b,[])
 |.fro t,xs=>(.fsl true t xs,[])
 |.own t,xs=>(.osl nm none,[(nm,.arr true t xs)])
 |.mat,xs=>(.osl nm none,[(nm,.mat 0 xs)])
 |.jun,n=>(.osl nm none,[(nm,.pmat 0 [] n)])
 |.map,df=>(.map nm,[(nm,.imap df)])
 |.nilp,_=>(.nilp,[])
 |.link _,_=>(.undef,[])
 |.nil,_=>(.nsl,[])
def pb (nm:Nat):(l:List RC)→RL l→List qC×vL
 |[],_=>([],[])
 |r::l,d=>
  let x:=sF nm r d.1;let y:=pb (nm+1) l d.2
  (x.1::y.1,x.2++y.2)
def vI0 (nm:Nat)(s:RS)(d:RL s.cells):zZ×vL:=
 let r:=pb nm s.cells d
 (s.mk r.1,r.2)
def xx (h:Hp):Nat→Nat→Bool
 |_,0=>true
 |nm,n+1=>(match h nm with|none=>true|some _=>false)&&xx h (nm+1) n
def xy (h:Hp):AS→zZ→Option (zZ×vL)
 |.c p,.c x=>match gF h [p.isKept] [x] with
  |some ([x],u)=>some (.c x,u)
  |_=>none
 |.agg l,.agg xs=>match gF h (l.map PC.isKept) xs with
  |some (xs,u)=>some (.agg xs,u)
  |none=>none
 |_,a=>some (a,[])
def sG (h:Hp):List AS→List zZ→Option (List zZ×vL)
 |s::l,a::as=>match xy h s a,sG h l as with
  |some (a,u),some (as,us)=>some (a::as,u++us)
  |_,_=>none
 |_,as=>some (as,[])
def pc as (rs:RS){X}(S:AD as→Option X)(pack:X→RL rs.cells)(nm:Nat)(args:List zZ)(h:Hp):yX:=
 match sG h as args with
 |none=>.stuck
 |some (args,u)=>match BI (qL h u) as args with
  |some d=>bif xx h nm rs.cells.length&&Nat.ble rs.cells.length 100 then .call X (S d) (fun r=>((vI0 nm rs (pack r)).1,u++(vI0 nm rs (pack r)).2)) else .stuck
  |none=>.stuck
structure Lo (M Ml:zN):Prop where
 H:Ml.H=M.H
 F:Ml.F=fun b=>b<M.H.size
 G:Ml.G=M.G
theorem Xj {M M':zN}(ok:Ok M')(hH:M'.H=M.H){t}{xs:List t.den}{v}(h:qH M'.H M'.G (.sl t) xs (fun _=>some v)):qH M.H (fun b=>b<M.H.size) (.sl t) xs (fun _=>some v):=by
 refine vF (fun b hb=>?_) (by grind) _ _ _ _ (by simp) h;have:=ok.Flt b (ok.GF b hb);simp_all
theorem vPu {M}(ok:Ok M){c v t xs}(hv:qA M c v)(h:kE M.h c=some ⟨t,xs⟩):qH M.H (fun b=>b<M.H.size) (.sl t) xs (fun _=>some v):=by
 unfold kE at h;split at h
 ·rename_i sh s ys;cases h;cases sh with
  |true=>exact vF (fun b hb=>ok.Flt b (ok.GF b hb)) (by simp) _ _ _ _ (fun _ _=>rfl) hv
  |false=>exact vF (fun b hb=>ok.Flt b hb) (by simp) _ _ _ _ (fun _ _=>rfl) hv
 ·rename_i id r;split at h
  ·rename_i own s ys an;cases h;cases own with
   |false=>
    obtain⟨C,hC,hO⟩:=ok.obj _ _ an;exact Xj ok rfl (Bf hC hO hv)
   |true=>
    obtain⟨M',h1,h2,h3,h4⟩:=vF7 ok an;obtain⟨C,hC,hO⟩:=h3.obj id _ (by rw[h2];exact yW _ _ _);exact Xj h3 h1 (Bf hC hO (hv.ext h4.ext))
  ·rename_i ver ys an;cases r with
   |some p=>cases h
   |none=>
    cases h;obtain⟨M',h1,h2,h3,h4⟩:=yT0 ok an;obtain⟨C,hC,hO⟩:=h3.obj id _ (by rw[h2];exact yW _ _ _);exact Xj h3 h1 (Bf (r:=none) hC hO (hv.ext h4.ext))
  ·cases h
 ·rename_i id i ver;split at h
  ·rename_i v' ys an;cases fU:Nat.beq v' ver with
   |false=>simp_all
   |true=>
    rw[fU] at h;cases h;have e:v'=ver:=by simpa using fU
    subst e;obtain⟨C,hC,hO⟩:=ok.obj _ _ an;obtain⟨C',aF,bS,_,aU⟩:=hv;rw[hC] at aF;cases aF;obtain⟨rb,rl,xp,sA⟩:=aU hO.1;by_cases hi:i<ys.length
    ·obtain⟨B,pS,v2,k1,k2,k3,k4,k5,k6⟩:=D9 hO hi;rw[xp] at k3;cases k3;rw[show ys.getD i []=ys[i] by simp_all];simp only[qH];cases rb with
     |none=>
      obtain⟨rfl,h0⟩:=sA;grind
     |some R=>
      obtain⟨a,c,rfl,h1,h2,h3⟩:=sA;refine⟨_,_,c,rfl,rfl,h1,?_⟩;by_cases h0:ys[i].length=0
      ·simp_all
      ·have ha:a=0:=by omega
       subst ha;refine .inr ⟨R,0,rfl,?_,fun j hj=>?_⟩
       ·have:=k6 R rfl 0 (by omega);unfold yY at this;grind
       ·simp only[Ty.size];simp_all
    ·have:C.rows[i]? =none:=List.getElem?_eq_none (by have:=hO.2.2.2.1;omega);simp_all
  ·cases h
 ·cases h
theorem Kl {H F t}:qH H F (.sl t) ([]:List t.den) (fun _=>some (.slice none 0 0)):=⟨none,0,0,rfl,rfl,by simp,by simp⟩
theorem vZq {M}(ok:Ok M){c v t xs}(hv:qA M c v)(h:BG M.h t c=some xs):qH M.H (fun b=>b<M.H.size) (.sl t) xs (fun _=>some v):=by
 unfold BG at h;split at h
 ·cases h;rw[show v=.slice none 0 0 from hv];exact Kl
 ·split at h
  ·rename_i s ys hr;obtain⟨e,hx⟩:=lF h;subst e;subst hx;exact vPu ok hv hr
  ·cases h
def Tr (M:zN)(c c':qC):Prop:=∀v Ml,Lo M Ml→qA M c v→qA Ml c' v
theorem Xk {M}(ok:Ok M){p c d}(h:ur M.h p c=some d):Tr M c (EC p d):=by
 intro v Ml lo hv;unfold ur at h;split at h
 ·rename_i k j n;cases e:gx j k with
  |false=>simp_all
  |true=>rw[e] at h;cases h;rw[←tL e];exact hv
 ·cases h;exact hv
 ·have:=vZq ok hv h;show qH Ml.H Ml.F _ _ _;rw[lo.H,lo.F];omega
 ·obtain⟨e,hx⟩:=lF h;subst e;subst hx;show qH Ml.H Ml.G _ _ _;rw[lo.H,lo.G];exact hv
 ·cases h;rw[show v=.slice none 0 0 from hv];exact Kl
 ·rename_i f g;cases e:Nat.beq f g with
  |false=>simp_all
  |true=>
   have:f=g:=by simp_all
   subst this;obtain⟨cv,rfl,hc⟩:=hv;refine⟨cv,rfl,?_⟩;generalize cv.toList=l at hc;cases l with
   |nil=>trivial
   |cons _ _=>exact hc.elim
 ·exact hv
 ·exact hv
 ·cases h
theorem ySp {M}(ok:Ok M):∀{l cs d},BH M.h l cs=some d→zO (Tr M) cs (wF l d)
 |[],[],_,_=>trivial
 |p::l,c::cs,d,h=>by
  unfold BH at h;split at h
  ·rename_i x xs h1 h2;cases h;exact⟨Xk ok h1,ySp ok h2⟩
  ·cases h
theorem Xl {M Ml}(lo:Lo M Ml):∀{cs aT vs},zO (Tr M) cs aT→zO (qA M) cs vs→zO (qA Ml) aT vs
 |[],[],[],_,_=>trivial
 |_::_,_::_,_::_,h,k=>⟨h.1 _ _ lo k.1,Xl lo h.2 k.2⟩
def xz (M:zN)(C:qE)(cells:List qC):Prop:=∃B vals e,C.blk=some B∧C.rows=[]∧M.H[B]? =some (.cells vals e (0,0))∧zO (qA M) cells vals.toList
theorem yI9 {M}(ok:Ok M){id cells}(h:EB M.h id=some cells):∃C,M.κ id=some C∧xz M C cells:=by
 unfold EB at h;split at h
 ·rename_i own cs an;cases h;obtain⟨C,hC,B,vals,e,h1,h2,h3,h4,_⟩:=ok.obj id _ an;exact⟨C,hC,B,vals,e,h1,h2,h3,h4⟩
 ·rename_i cs an;cases h;obtain⟨C,hC,B,vals,e,h1,h2,h3,h4,_⟩:=ok.obj id _ an;exact⟨C,hC,B,vals,e,h1,h2,h3,h4⟩
 ·cases h
theorem xz.tr {M Ml}(lo:Lo M Ml){C cs aT}(h:xz M C cs)(ht:zO (Tr M) cs aT):xz Ml C aT:=by
 obtain⟨B,vals,e,h1,h2,h3,h4⟩:=h;exact⟨B,vals,e,h1,h2,by rw[lo.H];exact h3,Xl lo ht h4⟩
theorem Xm {M}(ok:Ok M):∀{ls ids cs aT},uu M.h ls ids=some cs→zO (Tr M) cs aT→cs.length=ls.flatten.length∧ids.length=ls.length∧
  ∃Cs:List qE,zO (fun id C=>M.κ id=some C) ids Cs∧∀Ml,Lo M Ml→zO (xz Ml) Cs (Pz ls aT)
 |[],[],cs,aT,h,ht=>by cases h;exact⟨rfl,rfl,[],trivial,fun _ _=>trivial⟩
 |l::ls,id::ids,cs,aT,h,ht=>by
  unfold uu at h;split at h
  ·rename_i cells rest h1 h2;obtain⟨hl,h⟩:cells.length=l.length∧cells++rest=cs:=by
    cases e:Nat.beq cells.length l.length with
    |false=>simp_all
    |true=>simp_all
   subst h;have pf:=zO.take l.length ht;have nX:=zO.drop l.length ht;rw[←hl,List.take_left] at pf;rw[←hl,List.drop_left] at nX;obtain⟨C,hC,hB⟩:=yI9 ok h1;obtain⟨k1,k2,Cs,k3,k4⟩:=Xm ok h2 nX;refine⟨by simp_all,by simp[k2],C::Cs,⟨hC,k3⟩,fun Ml lo=>⟨?_,?_⟩⟩
   ·rw[←hl];exact hB.tr lo pf
   simp_all
  ·cases h
theorem Xn {M}(ok:Ok M){s:AS}{a v cs aT n}(hv:zX M a v)(h:s.get M.h a=some cs)(ht:zO (Tr M) cs aT):
  ∃Cs:List qE,(∀Ml,Lo M Ml→zO (xz Ml) Cs (s.boxes aT))∧(∀Ml,Lo M Ml→(∀i C,Cs[i]? =some C→Ml.κ (n+i)=some C)→zX Ml (s.mk n aT) v):=by
 unfold AS.get at h;split at h
 ·cases h
  match aT,ht with
  |[c'],ht=>exact⟨[],fun _ _=>trivial,fun Ml lo _=>ht.1 v Ml lo hv⟩
 ·rename_i l xs;cases e:Nat.beq xs.length l.length with
  |false=>simp_all
  |true=>
   rw[e] at h;cases h;obtain⟨vs,rfl,hx⟩:=hv;exact⟨[],fun _ _=>trivial,fun Ml lo _=>⟨vs,rfl,Xl lo ht hx⟩⟩
 ·rename_i l id;have:=Xm ok h ht;obtain⟨k1,k2,Cs,k3,k4⟩:=this;obtain⟨C,B,hC,hB,e⟩:=hv;have hl:aT.length=l.length:=by rw[←ht.length,k1];simp
  match Cs,k3 with
  |[C'],k3=>
   have e':C'=C:=by
    have:M.κ id=some C':=k3.1;simp_all
   subst e';refine⟨[C'],fun Ml lo=>?_,fun Ml lo hκ=>⟨C',B,hκ 0 C' rfl,hB,e⟩⟩;have:=k4 Ml lo;simp[Pz] at this;rw[List.take_of_length_le (by omega)] at this;exact this
 ·rename_i f bA g ids;cases e:Nat.beq f g with
  |false=>simp_all
  |true=>
   rw[e] at h;have Xo:f=g:=by simp_all
   subst Xo;obtain⟨k1,k2,Cs,k3,k4⟩:=Xm ok h ht;refine⟨Cs,k4,fun Ml lo hκ=>?_⟩;obtain⟨cv,rfl,hc⟩:=hv;refine⟨cv,rfl,?_⟩;have l1:=k3.length;have l2:=hc.length;refine zO.of_get (by simp_all) fun i h1 h2=>?_
   simp;have hi:i<ids.length:=by omega
   have bI:i<Cs.length:=by omega
   obtain⟨C,B,q1,q2,q3⟩:=hc.get i hi h2;have q4:=k3.get i hi bI;simp_all
 ·cases h
theorem Xp {h}:∀{ls ids cs},uu h ls ids=some cs→cs.length=ls.flatten.length
 |[],[],cs,e=>by cases e;rfl
 |l::ls,id::ids,cs,e=>by
  unfold uu at e;split at e
  ·rename_i cells rest h1 h2;cases el:Nat.beq cells.length l.length with
   |false=>simp_all
   |true=>
    rw[el] at e;cases e;have:cells.length=l.length:=by simp_all
    simp[this,Xp h2]
  ·cases e
theorem vZv {h}{s:AS}{a cs}(e:s.get h a=some cs):cs.length=s.cells.length:=by
 unfold AS.get at e;split at e
 ·cases e;rfl
 ·rename_i l xs;cases el:Nat.beq xs.length l.length with
  |false=>simp_all
  |true=>rw[el] at e;cases e;exact Nat.eq_of_beq_eq_true el
 ·rw[Xp e];simp[AS.cells]
 ·rename_i f bA g ids;cases el:Nat.beq f g with
  |false=>simp_all
  |true=>rw[el] at e;exact Xp e
 ·cases e
theorem yRx {M}(ok:Ok M):∀{l as vs cs aT n},zO (zX M) as vs→sE M.h l as=some cs→zO (Tr M) cs aT→
  ∃Cs:List qE,(∀Ml,Lo M Ml→zO (xz Ml) Cs (mm l aT n).2)∧(∀Ml,Lo M Ml→(∀i C,Cs[i]? =some C→Ml.κ (n+i)=some C)→zO (zX Ml) (mm l aT n).1 vs)
 |[],[],[],cs,aT,n,_,_,_=>⟨[],fun _ _=>trivial,fun _ _ _=>trivial⟩
 |s::l,a::as,v::vs,cs,aT,n,hv,h,ht=>by
  unfold sE at h;split at h
  ·rename_i nh rest h1 h2;cases h;have hl:=vZv h1;have pf:=zO.take s.cells.length ht;have nX:=zO.drop s.cells.length ht;rw[←hl,List.take_left,hl] at pf;rw[←hl,List.drop_left,hl] at nX;obtain⟨C1,k1,k2⟩:=Xn ok (n:=n) hv.1 h1 pf;obtain⟨C2,k3,k4⟩:=yRx ok (n:=n+(s.boxes (aT.take s.cells.length)).length) hv.2 h2 nX;refine⟨C1++C2,fun Ml lo=>(k1 Ml lo).append (k3 Ml lo),fun Ml lo hκ=>⟨k2 Ml lo fun i C hi=>hκ i C ?_,k4 Ml lo fun i C hi=>?_⟩⟩
   ·grind
   ·have hb:=(k1 Ml lo).length;have:=hκ (C1.length+i) C (by grind);grind
  ·cases h
def zN.below (M:zN)(Cs:List qE)(bs:List (List qC)):zN:={κ:=fun n=>Cs[n]?,F:=fun b=>b<M.H.size,G:=M.G,h:=mn bs,H:=M.H}
theorem zN.below_lo M Cs bs:Lo M (M.below Cs bs):=⟨rfl,rfl,rfl⟩
theorem zN.below_ok {M}(ok:Ok M){Cs bs}(h:zO (xz (M.below Cs bs)) Cs bs):Ok (M.below Cs bs)∧∀b,¬qU (M.below Cs bs) b:=by
 have hr:∀id o,(M.below Cs bs).h id=some o→∃cells,bs[id]? =some cells∧o=.robox cells:=fun id o e=>by
  have e:mn bs id=some o:=e;unfold mn at e;grind
 have Km:∀b,¬qU (M.below Cs bs) b:=fun b ⟨id,o,C,h1,h2,_,_⟩=>by
  obtain⟨cells,_,rfl⟩:=hr id o h1;cases h2
 refine⟨⟨fun id o e=>?_,fun id e=>?_,fun i j oi oj Ci Cj b _ h1 _ h3 _ _ _ _ _=>?_,by grind,fun b hb=>ok.Flt b (ok.GF b hb),fun b hb=>hb⟩,Km⟩
 ·obtain⟨cells,hc,rfl⟩:=hr id o e;have aS:id<bs.length:=by
   grind
  have kH:id<Cs.length:=by rw[h.length];omega
  obtain⟨B,vals,ev,q1,q2,q3,q4⟩:=h.get id kH aS;rw[List.getElem?_eq_getElem aS] at hc;cases hc;refine⟨Cs[id],List.getElem?_eq_getElem kH,B,vals,ev,q1,q2,q3,q4,?_⟩;exact(Array.getElem?_eq_some_iff.1 q3).1
 ·have e:mn bs id=none:=e;unfold mn at e;split at e
  ·cases e
  ·rename_i hc;show Cs[id]? =none;rw[List.getElem?_eq_none_iff] at hc⊢;rw[h.length];exact hc
 ·obtain⟨cells,_,rfl⟩:=hr i oi h1;cases h3
theorem Xq {M}(ok:Ok M){l as vs d}(hv:zO (zX M) as vs)(h:BI M.h l as=some d):
  ∃Ml:zN,Lo M Ml∧Ml.h=(qb l d).2∧Ok Ml∧(∀b,¬qU Ml b)∧zO (zX Ml) (qb l d).1 vs:=by
 unfold BI at h;split at h
 ·rename_i cs hg;obtain⟨Cs,h1,h2⟩:=yRx ok (n:=0) hv hg (ySp ok h);have lo:=M.below_lo Cs (mm l (wF (l.flatMap AS.cells) d) 0).2;have:=zN.below_ok ok (h1 _ lo);exact⟨_,lo,rfl,this.1,this.2,h2 _ lo fun i C hi=>by rw[Nat.zero_add];exact hi⟩
 ·cases h
theorem xA {h0}:∀{l cs aT vs u M},Ok M→jL h0 M.h→zO (qA M) cs vs→gF h0 l cs=some (aT,u)→
  ∃L:zN,L.H=M.H∧L.h=qL M.h u∧Ok L∧yT M L∧zO (qA L) aT vs∧jL h0 L.h
 |[],cs,aT,vs,u,M,ok,hf,hc,h=>by
  cases cs<;>cases h<;>exact⟨M,rfl,rfl,ok,.refl M,hc,hf⟩
 |true::l,[],aT,vs,u,M,ok,hf,hc,h
 |false::l,[],aT,vs,u,M,ok,hf,hc,h=>by cases h;exact⟨M,rfl,rfl,ok,.refl M,hc,hf⟩
 |true::l,c::cs,aT,v::vs,u,M,ok,hf,hc,h=>by
  unfold gF at h;split at h
  ·rename_i c1 u1 nh sj e1 e2;cases h;obtain⟨M1,h1,h2,h3,h4,h5,h6,_⟩:=JF ok hf hc.1 e1;obtain⟨M2,k1,k2,k3,k4,k5,k6⟩:=xA h3 h6 (hc.2.mono fun _ _ h=>h.ext h4.ext) e2;exact⟨M2,k1.trans h1,by rw[k2,h2,lE],k3,h4.trans k4,⟨h5.ext k4.ext,k5⟩,k6⟩
  ·cases h
 |false::l,c::cs,aT,v::vs,u,M,ok,hf,hc,h=>by
  unfold gF at h;split at h
  ·rename_i nh sj e2;cases h;obtain⟨M2,k1,k2,k3,k4,k5,k6⟩:=xA ok hf hc.2 e2;exact⟨M2,k1,k2,k3,k4,⟨hc.1.ext k4.ext,k5⟩,k6⟩
  ·cases h
def zN.add (M:zN)(nm:Nat)(o:Obj)(C:qE):zN:={M with κ:=κset M.κ nm C,h:=yP M.h nm o}
theorem zN.add_ok {M}(ok:Ok M){nm}(aV:M.h nm=none){o C}(hO:vC (M.add nm o C) o C)(hb:∀b∈C.fp,¬qU M b∧¬M.F b∧b<M.H.size):
  Ok (M.add nm o C)∧yV M (M.add nm o C)∧(∀b,qU (M.add nm o C) b→qU M b∨b∈C.fp):=by
 have x:yV M (M.add nm o C):=⟨fun id D h=>by
  have bx:id≠nm:=fun e=>by rw[e,ok.non nm aV] at h;cases h
  exact⟨D,by show κset M.κ nm _ id=_;rw[κset_ne _ _ bx];exact h,D.le_refl⟩,fun _ h=>h,fun _ h=>h,fun _ _=>rfl,fun _ _=>rfl,fun _ _=>rfl⟩
 refine⟨Ok.build ok x (fun id=>id=nm) (fun id h=>yZ _ _ h) (fun id h=>κset_ne _ _ h) (fun _ _ _ _ _ _ _ _ _=>rfl) (fun id o' D h1 h2 h3 h4 b bg=>(ok.own b ⟨id,o',D,h2,h3,h4,bg⟩).1) (Nat.le_refl _)
  (fun id o' e h=>?_) (fun id e h=>?_) (fun id o' D b e h1 h2 h3 h4=>?_) ok.GF ok.Flt,x,fun b bg=>?_⟩
 ·subst e;have e1:(M.add id o C).h id=some o:=yW _ _ _;rw[e1] at h;cases h;exact⟨_,κset_same _ _ _,hO⟩
 ·have e1:(M.add id o C).h id=some o:=yW _ _ _;simp_all
 ·subst e;have e1:(M.add id o C).κ id=some C:=κset_same _ _ _;rw[e1] at h3;cases h3;obtain⟨k1,k2,k3⟩:=hb b h4;refine⟨fun j oj Cj hj q1 q2 q3 q4=>k1 ⟨j,oj,Cj,?_,q2,?_,q4⟩,k2,k3⟩
  ·rw[←q1];exact(yZ _ _ hj).symm
  ·rw[←q3];exact(κset_ne _ _ hj).symm
 ·obtain⟨id,o',D,h1,h2,h3,h4⟩:=bg;by_cases e:id=nm
  ·have e1:(M.add id o C).κ id=some C:=κset_same _ _ _;simp_all
  ·exact .inl ⟨id,o',D,by rw[←h1];exact(yZ _ _ e).symm,h2,by rw[←h3];exact(κset_ne _ _ e).symm,h4⟩
structure Up (L Mc:zN):Prop where
 H:Mc.H=L.H
 G:Mc.G=L.G
theorem yYh {L Mc}(up:Up L Mc){t xs C}(h:vC L (.arr true t xs) C):vC Mc (.arr true t xs) C:=by
 obtain⟨h1,h2,h3,h4⟩:=h;refine⟨h1,h2,h3,?_⟩;rw[up.H,up.G];exact h4
theorem Xr {L Mc}(up:Up L Mc){ver xs C}(h:vC L (.mat ver xs) C):vC Mc (.mat 0 xs) {C with ver:=0}:=by
 obtain⟨h1,h2⟩:=h;refine⟨rfl,?_⟩;rw[up.H];exact h2
theorem Xs {L Mc}(up:Up L Mc){ver n xs C}(h:vC L (.pmat ver xs n) C)(hn:xs.length=n):vC Mc (.mat 0 xs) {C with ver:=0}:=by
 obtain⟨h1,h2,h3,h4,h5,_,h6⟩:=h;refine⟨rfl,by rw[hn];exact h2,h3,h4,h5,?_⟩;rw[up.H];subst hn;simp_all
theorem Xt {L Mc}(up:Up L Mc){xs:List (List Int)}{C}(h:vC L (.arr true (.sl (.int .i64)) xs) C):vC Mc (.pmat 0 [] xs.length) {C with ver:=0}:=by
 obtain⟨h1,h2,h3,h4⟩:=h;have hr:=h3 rfl;refine⟨rfl,h1,h2,by simp_all,?_,by simp,?_⟩
 ·simp[qE.fp];grind
 ·cases hB:C.blk with
  |none=>simp_all
  |some B=>
   rw[hB] at h4;obtain⟨vals,e,h5,_,h7,_⟩:=h4;refine⟨vals,e,by rw[up.H];exact h5,by simpa[Ty.size] using h7,by simp⟩
theorem Xu {L Mc}(iY:Ok L)(ok:Ok Mc)(up:Up L Mc){nm}(aV:Mc.h nm=none){r c d}(h:qc L.h r c=some d)
  (hb:∀id∈wO [r] [c],∀C,L.κ id=some C→∀b∈C.fp,¬qU Mc b∧¬Mc.F b∧b<Mc.H.size):
  ∃eN:zN,eN.H=Mc.H∧eN.G=Mc.G∧eN.F=Mc.F∧eN.h=qL Mc.h (sF nm r d).2∧Ok eN∧yV Mc eN∧
   (∀b,qU eN b→qU Mc b∨∃id∈wO [r] [c],∃C,L.κ id=some C∧b∈C.fp)∧∀v,qA L c v→qA eN (sF nm r d).1 v:=by
 have same : (sF nm r d).2 = [] → (∀ v, qA L c v → qA Mc (sF nm r d).1 v) → _ := fun e hv => (⟨Mc,rfl,rfl,rfl,by rw[e];rfl,ok,.refl Mc,by grind,hv⟩:
  ∃eN:zN,eN.H=Mc.H∧eN.G=Mc.G∧eN.F=Mc.F∧eN.h=qL Mc.h (sF nm r d).2∧Ok eN∧yV Mc eN∧
   (∀b,qU eN b→qU Mc b∨∃id∈wO [r] [c],∃C,L.κ id=some C∧b∈C.fp)∧∀v,qA L c v→qA eN (sF nm r d).1 v)
 unfold qc at h;split at h
 ·rename_i k j n;cases e:gx j k with
  |false=>rw[e] at h;cases h
  |true=>
   rw[e] at h;cases h;exact same rfl fun v hv=>by rw[←tL e];exact hv
 ·cases h;exact same rfl fun v hv=>hv
 ·obtain⟨e,hx⟩:=lF h;subst e;subst hx;refine same rfl fun v hv=>?_
  show qH Mc.H Mc.G _ _ _;rw[up.H,up.G];exact hv
 ·cases h;refine same rfl fun v hv=>?_
  rw[show v=.slice none 0 0 from hv];exact Kl
 ·rename_i t id;split at h
  ·rename_i s xs an;obtain⟨e,hx⟩:=lF h;subst e;subst hx;obtain⟨C,hC,hO⟩:=iY.obj id _ an;obtain⟨k1,k2,k3⟩:=zN.add_ok ok aV (o:=.arr true s xs) (C:=C) (yYh (Mc:=Mc.add nm (.arr true s xs) C) ⟨up.H,up.G⟩ hO) (hb id (by simp[wO]) C hC);refine⟨Mc.add nm (.arr true s xs) C,rfl,rfl,rfl,rfl,k1,k2,fun b bg=>(k3 b bg).imp (fun h=>h) fun h=>⟨id,by simp[wO],C,hC,h⟩,fun v hv=>?_⟩;obtain⟨C',aF,hS⟩:=hv;rw[hC] at aF;cases aF;refine⟨C,κset_same _ _ _,?_⟩;show jJ Mc.H C 0 C.len v;rw[up.H];exact hS
  ·cases h
 ·rename_i t id n;split at h
  ·rename_i s xs an;obtain⟨e,hx⟩:=lF h;subst e;subst hx;obtain⟨C,hC,hO⟩:=iY.obj id _ an;let C':qE:={C with len:=(xs.take n).length};have tX:vC (Mc.add nm (.arr true s (xs.take n)) C') (.arr true s (xs.take n)) C':=by
    obtain⟨q1,q2,q3,q4⟩:=yYh (Mc:=Mc.add nm (.arr true s (xs.take n)) C') ⟨up.H,up.G⟩ hO;refine⟨rfl,q2,q3,?_⟩;show match C.blk with
     |none=>_
     |some B=>_
    cases hB:C.blk with
    |none=>rw[hB] at q4;show xs.take n=[];rw[q4];simp
    |some B=>
     rw[hB] at q4;obtain⟨vals,e,r1,r2,r3,r4⟩:=q4;have hle:(xs.take n).length≤xs.length:=by rw[List.length_take];omega
     have:=Nat.mul_le_mul_right s.size hle;refine⟨vals,e,r1,r2,by omega,fun i hi=>?_⟩;rw[List.getElem_take];exact r4 i (by omega)
   obtain⟨k1,k2,k3⟩:=zN.add_ok ok aV (o:=.arr true s (xs.take n)) (C:=C') tX (hb id (by simp[wO]) C hC);refine⟨Mc.add nm (.arr true s (xs.take n)) C',rfl,rfl,rfl,rfl,k1,k2,fun b bg=>(k3 b bg).imp (fun h=>h) fun h=>⟨id,by simp[wO],C,hC,h⟩,fun v hv=>?_⟩;obtain⟨C1,iW,h1,hS,_⟩:=hv;rw[hC] at iW;cases iW;have hl:(xs.take n).length=n:=by rw[List.length_take,←hO.1];omega
   refine⟨C',κset_same _ _ _,?_⟩;show jJ Mc.H C' 0 (xs.take n).length v;rw[hl,up.H];exact hS
  ·cases h
 ·rename_i t;cases h;obtain⟨k1,k2,k3⟩:=Mc.nilObj_ok ok aV t false;refine⟨Mc.nilObj nm (kN t false) (mj t false),rfl,rfl,rfl,rfl,k1,k2,by grind,fun v hv=>?_⟩;rw[show v=.slice none 0 0 from hv];exact⟨_,κset_same _ _ _,none,0,rfl,rfl,rfl,rfl⟩
 ·rename_i id;split at h
  ·rename_i ver xs an;cases h;obtain⟨C,hC,hO⟩:=iY.obj id _ an;obtain⟨k1,k2,k3⟩:=zN.add_ok ok aV (o:=.mat 0 d) (C:={C with ver:=0}) (Xr (Mc:=Mc.add nm (.mat 0 d) {C with ver:=0}) ⟨up.H,up.G⟩ hO) (hb id (by simp[wO]) C hC);refine⟨Mc.add nm (.mat 0 d) {C with ver:=0},rfl,rfl,rfl,rfl,k1,k2,fun b bg=>(k3 b bg).imp (fun h=>h) fun h=>⟨id,by simp[wO],C,hC,h⟩,fun v hv=>?_⟩;obtain⟨C',aF,hS⟩:=hv;rw[hC] at aF;cases aF;refine⟨_,κset_same _ _ _,?_⟩;show jJ Mc.H C 0 C.len v;rw[up.H];exact hS
  ·rename_i ver xs n an;obtain⟨hc,h⟩:Nat.beq xs.length n=true∧some xs=some d:=by
    cases e:Nat.beq xs.length n with
    |true=>rw[e] at h;exact⟨rfl,h⟩
    |false=>rw[e] at h;cases h
   cases h;obtain⟨C,hC,hO⟩:=iY.obj id _ an;obtain⟨k1,k2,k3⟩:=zN.add_ok ok aV (o:=.mat 0 d) (C:={C with ver:=0}) (Xs (Mc:=Mc.add nm (.mat 0 d) {C with ver:=0}) ⟨up.H,up.G⟩ hO (Nat.eq_of_beq_eq_true hc)) (hb id (by simp[wO]) C hC);refine⟨Mc.add nm (.mat 0 d) {C with ver:=0},rfl,rfl,rfl,rfl,k1,k2,fun b bg=>(k3 b bg).imp (fun h=>h) fun h=>⟨id,by simp[wO],C,hC,h⟩,fun v hv=>?_⟩;obtain⟨C',aF,hS⟩:=hv;rw[hC] at aF;cases aF;refine⟨_,κset_same _ _ _,?_⟩;show jJ Mc.H C 0 C.len v;rw[up.H];exact hS
  ·cases h
 ·cases h;obtain⟨k1,k2,k3⟩:=Mc.nilObj_ok ok aV (.int .i64) true;refine⟨Mc.nilObj nm (kN (.int .i64) true) (mj (.int .i64) true),rfl,rfl,rfl,rfl,k1,k2,by grind,fun v hv=>?_⟩;rw[show v=.slice none 0 0 from hv];exact⟨_,κset_same _ _ _,none,0,rfl,rfl,rfl,rfl⟩
 ·rename_i id;split at h
  ·rename_i xs an;cases h;obtain⟨C,hC,hO⟩:=iY.obj id _ an;obtain⟨k1,k2,k3⟩:=zN.add_ok ok aV (o:=.pmat 0 [] xs.length) (C:={C with ver:=0}) (Xt (Mc:=Mc.add nm (.pmat 0 [] xs.length) {C with ver:=0}) ⟨up.H,up.G⟩ hO) (hb id (by simp[wO]) C hC);refine⟨Mc.add nm (.pmat 0 [] xs.length) {C with ver:=0},rfl,rfl,rfl,rfl,k1,k2,fun b bg=>(k3 b bg).imp (fun h=>h) fun h=>⟨id,by simp[wO],C,hC,h⟩,fun v hv=>?_⟩;obtain⟨C',aF,hS⟩:=hv;rw[hC] at aF;cases aF;refine⟨_,κset_same _ _ _,?_⟩;show jJ Mc.H C 0 C.len v;rw[up.H];exact hS
  ·cases h
 ·cases h;obtain⟨k1,k2,k3⟩:=zN.add_ok ok aV (o:=.pmat 0 [] 0) (C:=⟨none,0,1,0,[]⟩) ⟨rfl,rfl,rfl,rfl,by simp[qE.fp],Nat.le_refl _,rfl⟩ (nofun);refine⟨Mc.add nm (.pmat 0 [] 0) ⟨none,0,1,0,[]⟩,rfl,rfl,rfl,rfl,k1,k2,fun b bg=>(k3 b bg).imp (fun h=>h) nofun,fun v hv=>?_⟩;rw[show v=.slice none 0 0 from hv];exact⟨_,κset_same _ _ _,none,0,rfl,rfl,rfl,rfl⟩
 ·rename_i id;split at h
  ·rename_i df an;cases h;obtain⟨C,hC,hO⟩:=iY.obj id _ an;have tX:vC (Mc.add nm (.imap d) C) (.imap d) C:=by
    obtain⟨B,es,ck,h1,h2,h3,h4,h5⟩:=hO;refine⟨B,es,ck,h1,h2,?_,h4,h5⟩;show Mc.H[B]? =_;rw[up.H];exact h3
   obtain⟨k1,k2,k3⟩:=zN.add_ok ok aV (o:=.imap d) (C:=C) tX (hb id (by simp[wO]) C hC);refine⟨Mc.add nm (.imap d) C,rfl,rfl,rfl,rfl,k1,k2,fun b bg=>(k3 b bg).imp (fun h=>h) fun h=>⟨id,by simp[wO],C,hC,h⟩,fun v hv=>?_⟩;obtain⟨C',B,aF,hB,e⟩:=hv;rw[hC] at aF;cases aF;exact⟨C,B,κset_same _ _ _,hB,e⟩
  ·cases h
 ·exact same rfl fun v hv=>hv
 ·exact same rfl fun v hv=>hv.one
 ·exact same rfl fun v hv=>hv
 ·cases h
theorem PA r c l cs:wO (r::l) (c::cs)=wO [r] [c]++wO l cs:=by
 cases r<;>cases c<;>rfl
theorem vHg {nm r d n}(h:n≠nm) hh:qL hh (sF nm r d).2 n=hh n:=by
 cases r<;>first|rfl|exact yZ _ _ h
theorem Xv {h}:∀{n nm},xx h nm n=true→∀i,i<n→h (nm+i)=none
 |n+1,nm,e,i,hi=>by
  unfold xx at e;rw[Bool.and_eq_true] at e;cases i with
  |zero=>
   grind
  |succ i=>rw[←Xv e.2 i (by omega)];grind
theorem Xw {L:zN}(iY:Ok L):∀{l:List RC} {cs:List qC} {d:RL l} {nm:Nat} {Mc:zN},Ok Mc→Up L Mc→(∀i,i<l.length→Mc.h (nm+i)=none)→kQ L.h l cs=some d→(wO l cs).Nodup→
  (∀id∈wO l cs,∃o,L.h id=some o∧o.owned=true)→
  (∀id∈wO l cs,∀C,L.κ id=some C→∀b∈C.fp,¬qU Mc b∧¬Mc.F b∧b<Mc.H.size)→
  ∃eN:zN,eN.H=Mc.H∧eN.G=Mc.G∧eN.F=Mc.F∧eN.h=qL Mc.h (pb nm l d).2∧Ok eN∧yV Mc eN∧
   (∀b,qU eN b→qU Mc b∨∃id∈wO l cs,∃C,L.κ id=some C∧b∈C.fp)∧∀vs,zO (qA L) cs vs→zO (qA eN) (pb nm l d).1 vs
 |[],[],d,nm,Mc,ok,up,_,_,_,_,_=>⟨Mc,rfl,rfl,rfl,rfl,ok,.refl Mc,fun b h=>.inl h,fun vs h=>by
  cases vs with
  |nil=>trivial
  |cons _ _=>exact h.elim⟩
 |r::l,c::cs,d,nm,Mc,ok,up,hf,h,dJ,aN,hb=>by
  unfold kQ at h;split at h
  ·rename_i x xs e1 e2;cases h;rw[PA] at dJ aN hb;obtain⟨nd1,nd2,nd3⟩:=List.nodup_append.1 dJ;obtain⟨M1,a1,a2,a3,a4,a5,a6,a7,a8⟩:=Xu iY ok up (by have:=hf 0 (by simp);simpa using this) e1 (by grind);have up1:Up L M1:=⟨a1.trans up.H,a2.trans up.G⟩;obtain ⟨M2, b1, b2, b3, b4, b5, b6, b7, b8⟩ := Xw iY (nm := nm + 1) a5 up1 (fun i hi=>by
     rw[a4,vHg (by omega)];have:=hf (i+1) (by simp;omega);grind) e2 nd2 (fun id an => aN id (by grind)) (fun id an C hC b ED=>by
     obtain⟨q1,q2,q3⟩:=hb id (List.mem_append_right _ an) C hC b ED;refine⟨fun ho=>?_,by simp_all,by simp_all⟩;rcases a7 b ho with ho|⟨jd,dh,D,hD,Xx⟩
     ·exact q1 ho
     ·have bx:id≠jd:=by grind
      obtain⟨o1,p1,p2⟩:=aN id (by grind);obtain⟨o2,p3,p4⟩:=aN jd (List.mem_append_left _ dh);exact iY.disj id jd o1 o2 C D b bx p1 p3 p2 p4 hC hD ED Xx)
   refine⟨M2,b1.trans a1,b2.trans a2,b3.trans a3,?_,b5,a6.trans (by simp_all) b6,fun b bg=>?_,fun vs dI=>?_⟩
   ·show M2.h=qL Mc.h ((sF nm r x).2++(pb (nm+1) l xs).2);rw[lE,←a4];exact b4
   ·rw[PA];grind
   ·cases vs with
    |nil=>exact dI.elim
    |cons v vs=>exact⟨(a8 v dI.1).ext b6,b8 vs dI.2⟩
  ·cases h
 |[],_::_,_,_,_,_,_,_,h,_,_,_=>by cases h
 |_::_,[],_,_,_,_,_,_,h,_,_,_=>by cases h
theorem wQ {α:Type}{c x}{y:α}(h:(bif c then x else none)=some y):c=true∧x=some y:=by
 grind
theorem vGk {M}:∀{l xs cs vs},Xh l xs=some cs→zO (xj M) xs vs→
  cs.length=(l.flatMap (·.2)).length∧∃us:List Value,zO (qA M) cs us∧∀M' aT,zO (qA M') aT us→zO (xj M') (Xi l aT) vs
 |[],[],cs,[],h,_=>by cases h;exact⟨rfl,[],trivial,fun _ _ _=>trivial⟩
 |(b,l)::ls,(g,nh)::rest,cs,v::vs,h,hv=>by
  obtain⟨hc,h⟩:=wQ h;split at h
  ·rename_i r hr;cases h;rw[Bool.and_eq_true] at hc;have hl:nh.length=l.length:=by simp_all
   obtain⟨k1,us,k2,k3⟩:=vGk hr hv.2;refine⟨by simp_all,?_⟩;cases b with
   |true=>
    have hg:g=true:=hc.1;subst hg;obtain⟨ws,rfl,hw⟩:=hv.1;refine⟨ws.toList++us,hw.append k2,fun M' aT h'=>⟨?_,?_⟩⟩
    ·have h1:=zO.take l.length h';have Xy:=hw.length;rw[show(ws.toList++us).take l.length=ws.toList from by simp_all] at h1;exact⟨ws,rfl,h1⟩
    ·have h1:=zO.drop l.length h';have Xy:=hw.length;simp_all
   |false=>
    have hg:=hc.1;simp  at hg;obtain⟨PB,hg2⟩:=hg;subst PB;have ua:nh.length=1:=by simp_all
    match nh,ua with
    |[c],_=>
     have nU:qA M c v:=hv.1;refine⟨v::us,⟨nU,k2⟩,fun M' aT h'=>?_⟩
     match aT,h' with
     |c'::Xz,h'=>
      have e:l.length=1:=by omega
      refine⟨?_,?_⟩
      ·rw[e];exact h'.1
      ·rw[e];exact k3 M' Xz h'.2
  ·cases h
 |[],[],_,_::_,_,hv=>hv.elim
theorem yUo {M}{s:RS}{v cs rv}(h:s.get v=some cs)(hv:zX M v rv):
  cs.length=s.cells.length∧∃us:List Value,zO (qA M) cs us∧∀M' aT,zO (qA M') aT us→zX M' (s.mk aT) rv:=by
 unfold RS.get at h;split at h
 ·cases h;refine⟨rfl,[rv],⟨hv,trivial⟩,fun M' aT h'=>?_⟩
  match aT,h' with
  |[c'],h'=>exact h'.1
 ·obtain⟨hl,h⟩:=wQ h;cases h;obtain⟨vs,rfl,hx⟩:=hv;exact⟨Nat.eq_of_beq_eq_true hl,vs.toList,hx,fun M' aT h'=>⟨vs,rfl,h'⟩⟩
 ·obtain⟨vs,rfl,hx⟩:=hv;obtain⟨k1,us,k2,k3⟩:=vGk h hx;exact⟨k1,us,k2,fun M' aT h'=>⟨vs,rfl,by grind⟩⟩
 ·cases h
theorem XA {h0 s a a' v u M}(ok:Ok M)(hf:jL h0 M.h)(hv:zX M a v)(h:xy h0 s a=some (a',u)):
  ∃L:zN,L.H=M.H∧L.h=qL M.h u∧Ok L∧yT M L∧zX L a' v∧jL h0 L.h:=by
 unfold xy at h;split at h
 ·rename_i p x;split at h
  ·rename_i y u1 e;cases h;obtain⟨L,h1,h2,h3,h4,h5,h6⟩:=xA (cs:=[x]) (vs:=[v]) ok hf ⟨hv,trivial⟩ e;exact⟨L,h1,h2,h3,h4,h5.1,h6⟩
  ·cases h
 ·split at h
  ·rename_i ys u1 e;cases h;obtain⟨vs,rfl,hx⟩:=hv;obtain⟨L,h1,h2,h3,h4,h5,h6⟩:=xA ok hf hx e;exact⟨L,h1,h2,h3,h4,⟨vs,rfl,h5⟩,h6⟩
  ·cases h
 ·cases h;exact⟨M,rfl,rfl,ok,.refl M,hv,hf⟩
theorem xB.ext {M M'}(x:yV M M'):∀{as vs},zO (zX M) as vs→zO (zX M') as vs:=fun h=>h.mono fun _ _ h=>h.ext x
theorem vK1 {h0}:∀{l as fc vs u M},Ok M→jL h0 M.h→zO (zX M) as vs→sG h0 l as=some (fc,u)→
  ∃L:zN,L.H=M.H∧L.h=qL M.h u∧Ok L∧yT M L∧zO (zX L) fc vs∧jL h0 L.h
 |s::l,a::as,fc,v::vs,u,M,ok,hf,hv,h=>by
  unfold sG at h;split at h
  ·rename_i a1 u1 XB sj e1 e2;cases h;obtain⟨M1,h1,h2,h3,h4,h5,h6⟩:=XA ok hf hv.1 e1;obtain⟨M2,k1,k2,k3,k4,k5,k6⟩:=vK1 h3 h6 (xB.ext h4.ext hv.2) e2;exact⟨M2,k1.trans h1,by rw[k2,h2,lE],k3,h4.trans k4,⟨h5.ext k4.ext,k5⟩,k6⟩
  ·cases h
 |[],as,fc,vs,u,M,ok,hf,hv,h=>by
  cases as<;>cases h<;>exact⟨M,rfl,rfl,ok,.refl M,hv,hf⟩
 |s::l,[],fc,vs,u,M,ok,hf,hv,h=>by cases h;exact⟨M,rfl,rfl,ok,.refl M,hv,hf⟩
def zN.over (M L:zN):zN:={κ:=M.κ,F:=fun b=>M.F b∨L.G b,G:=L.G,h:=M.h,H:=L.H}
theorem zN.over_ok {M Ml L}(ok:Ok M)(iY:Ok L)(lo:Lo M Ml)(Km:∀b,¬qU Ml b)(g:kh Ml L):Ok (M.over L)∧yT M (M.over L):=by
 have aS:∀b,Ml.F b↔b<M.H.size:=fun b=>by rw[lo.F]
 have cU:∀b,b<M.H.size→L.H[b]? =M.H[b]? :=fun b hb=>by rw[g.same b (by grind),lo.H]
 have dH:M.H.size≤L.H.size:=by grind
 have hG:∀b,L.G b→b<M.H.size→M.G b:=fun b hb hs=>by
  rcases g.Gb b hb (by rw[lo.H];exact hs) with h|h
  ·rw[lo.G] at h;exact h
  simp_all
 have kH:∀b,M.F b→b<M.H.size:=ok.Flt;have x:yV M (M.over L):=⟨fun id C h=>⟨C,h,C.le_refl⟩,fun b h=>.inl h,fun b h=>g.G b (by rw[lo.G];exact h),fun b h=>cU b (by grind),fun b h=>cU b (ok.Flt b (ok.GF b h)),fun b h=>D6 (cU b h)⟩;have aN:∀b,qU (M.over L) b→qU M b:=fun b h=>h
 refine⟨⟨fun id o h=>?_,fun id h=>ok.non id h,ok.disj,fun b h=>⟨fun hf=>?_,?_⟩,fun b h=>.inr h,fun b h=>?_⟩,⟨x,dH,fun b hb _=>cU b hb,by grind,fun b h hs=>.inl (hG b h hs),fun b h hs=>?_⟩⟩
 ·obtain⟨C,hC,hO⟩:=ok.obj id o h;exact⟨C,hC,hO.ext x fun ho b hb=>cU b (ok.own b ⟨id,o,C,h,ho,hC,hb⟩).2⟩
 ·have:=ok.own b (aN b h);rcases hf with hf|hf
  ·simp_all
  ·exact this.1 (ok.GF b (by grind))
 ·have h1:=(ok.own b (aN b h)).2;show b<L.H.size;omega
 ·show b<L.H.size;rcases h with h|h
  ·grind
  ·exact iY.Flt b (iY.GF b h)
 ·rcases h with h|h
  ·simp_all
  ·exact .inl (ok.GF b (hG b h hs))
theorem XE {h0 r c d}(h:qc h0 r c=some d):∀id∈wO [r] [c],∃o,h0 id=some o∧o.owned=true:=by
 unfold qc at h;split at h;all_goals (try (intro id an;simp[wO] at an;done))
 ·intro Ew an;have:=List.mem_singleton.1 an;subst this;split at h
  ·exact⟨_,by assumption,rfl⟩
  ·cases h
 ·intro Ew an;have:=List.mem_singleton.1 an;subst this;split at h
  ·exact⟨_,by omega,rfl⟩
  ·cases h
 ·rename_i id;intro Ew an;have:=List.mem_singleton.1 an;subst this;split at h
  ·exact⟨_,by assumption,rfl⟩
  ·exact⟨_,by omega,rfl⟩
  ·cases h
 ·intro Ew an;have:=List.mem_singleton.1 an;subst this;split at h
  ·exact⟨_,by assumption,rfl⟩
  ·cases h
 ·intro Ew an;have:=List.mem_singleton.1 an;subst this;split at h
  ·exact⟨_,by assumption,rfl⟩
  ·cases h
 ·cases h
theorem xC {L:zN}:∀{l cs d},kQ L.h l cs=some d→∀id∈wO l cs,∃o,L.h id=some o∧o.owned=true
 |r::l,c::cs,d,h,id,an=>by
  unfold kQ at h;split at h
  ·rename_i x xs e1 e2;rw[PA] at an;rcases List.mem_append.1 an with an|an
   ·exact XE e1 id an
   ·exact xC e2 id an
  ·cases h
theorem yPx {E}(hE:gD E)(hS:kg E.sums)(hm:E.P.follows .mixedOrders=true){A k pre na f fn}(hf:E.P.funcs[f]? =some fn)(hL:∀c,fn.body=some c→wS E.P A pre na fn.ntmps c)(cg:∀vs w,(callFunc f vs).run E.P w=.ok (.enter f vs) w)
  {as rs X S pack} {unpack:RL rs.cells→X} (fy:∀d,pack (unpack d)=d) (aW:∀d x,S d=some x→∀Ml vs,zO (zX Ml) (qb as d).1 vs→∃eO,zO (zX Ml) eO vs∧kG E A k pre na fn eO (qb as d).2 (nk rs unpack)=some x)
  {nm args h v u} (hy:yQ (pc as rs S pack nm args h) v u):uh E.P f args h v u:=by
 intro M w vs hh hH ok hv;refine .inl ⟨cg vs w,?_⟩;unfold pc at hy;split at hy
 ·exact hy.elim
 rename_i eO u0 BJ;split at hy
 case h_2=>exact hy.elim
 rename_i d hd;obtain⟨hc,hy⟩:=Bt hy;rw[Bool.and_eq_true] at hc;obtain⟨x,hx,rfl,rfl⟩:=hy;subst hh;obtain⟨M1,a1,a2,a3,a4,a5,a6⟩:=vK1 ok (jL.refl _) hv BJ;rw[←a2] at hd;obtain⟨Ml,lo,b2,b3,b4,b5⟩:=Xq a3 a5 hd;obtain⟨ajv,BK,XF⟩:=aW d x hx Ml _ b5;refine Calls.mono (Xf hE hS hm hf hL XF b2 (by rw[lo.H,a1];exact hH) b3 BK) fun e w' he=>?_
 cases e with
 |panicked _=>omega
 |outgrown=>omega
 |returned rv=>
  obtain⟨L0,v0,st,hK,c1,c2,c3,c4,_,c5,c6,c7,c8,_⟩:=he;have hK:Kk st.h rs v0=some (pack x):=by
   unfold nk at hK;grind
  unfold Kk at hK;split at hK
  case h_2=>cases hK
  rename_i cs nY;split at hK
  case h_2=>cases hK
  rename_i aT u1 BL;obtain⟨dJ,hK⟩:=wQ hK;obtain⟨hlen,us,d1,d2⟩:=yUo nY c5;rw[←c1] at BL hK;obtain⟨L,e1,e2,e3,e4,e5,e6⟩:=xA c3 (jL.refl _) d1 BL;rw[←e2] at hK;have g:kh Ml L:=c4.trans e4.grow;obtain⟨f1,f2⟩:=zN.over_ok a3 e3 lo b4 g;have qd:∀i,i<rs.cells.length→(M1.over L).h (nm+i)=none:=fun i hi=>by
   have h1:=Xv hc.1 i hi;show M1.h (nm+i)=none;rcases a6 (nm+i) with h|⟨own,t,xs,h,_⟩|⟨ver,xs,h,_⟩
   all_goals simp_all
  obtain ⟨Mc, g1, g2, g3, g4, g5, g6, g7, g8⟩ := Xw e3 f1 ⟨rfl, rfl⟩ qd hK (Eo dJ) (xC hK) (fun id an C hC b hb=>by
   obtain⟨o,ho,iX⟩:=xC hK id an;have aN:qU L b:=⟨id,o,C,ho,iX,hC,hb⟩;have oU:¬b<M1.H.size:=fun aS=>b4 b (g.own b aN (by rw[lo.H];omega))
   refine⟨fun h=>oU (a3.own b h).2,fun h=>?_,(e3.own b aN).2⟩;rcases h with h|h
   ·exact oU (a3.Flt b h)
   ·exact(e3.own b aN).1 (e3.GF b h))
  have xD:yT M1 Mc:=by
   have aN:∀b,qU Mc b→b<M1.H.size→qU M1 b:=fun b hb aS=>by
    rcases g7 b hb with h|⟨id,an,C,hC,ED⟩
    ·exact h
    ·obtain⟨o,ho,iX⟩:=xC hK id an;exact absurd (g.own b ⟨id,o,C,ho,iX,hC,ED⟩ (by rw[lo.H];omega)) (b4 b)
   refine⟨f2.ext.trans f2.size g6,?_,fun b hb hn=>?_,aN,fun b hb aS=>?_,fun b hb aS=>?_⟩
   ·rw[g1];exact f2.size
   ·rw[g1];exact f2.frame b hb hn
   ·rw[g2] at hb;exact f2.Gb b hb aS
   ·rw[g3] at hb;exact f2.Fb b hb aS
  refine⟨Mc,⟨c6,c7,c8,?_,?_,g5,a4.trans xD⟩,?_⟩
  ·rw[g1];show L.H=_;rw[e1,c2]
  ·rw[lE,←a2];exact g4
  ·exact d2 Mc _ (g8 us e5)
theorem XG {E}(hE:gD E)(hS:kg E.sums)(hm:E.P.follows .mixedOrders=true){A k pre na f fn}(hf:E.P.funcs[f]? =some fn)(hL:∀c,fn.body=some c→wS E.P A pre na fn.ntmps c)(cg:∀vs w,(callFunc f vs).run E.P w=.ok (.enter f vs) w)
  {as rs X S} {pack:X→RL rs.cells} {unpack} (fy:∀d,pack (unpack d)=d) (aW:∀d,kG E A k pre na fn (qb as d).1 (qb as d).2 (nk rs unpack)=S d)
  {nm args h v u} (hy:yQ (pc as rs S pack nm args h) v u):uh E.P f args h v u:=
 yPx hE hS hm hf hL cg fy (fun d x hx _ _ hv=>⟨_,hv,(aW d).trans hx⟩) hy
theorem XH {E}(hE:gD E)(hS:kg E.sums)(hm:E.P.follows .mixedOrders=true){A k pre na f fn}(hf:E.P.funcs[f]? =some fn)(hL:∀c,fn.body=some c→wS E.P A pre na fn.ntmps c)(cg:∀vs w,(callFunc f vs).run E.P w=.ok (.enter f vs) w)
  {sh t rs X} {S:List t.den→Option X} {pack unpack} (fy:∀d,pack (unpack d)=d) (cO:∀x,S []=some x→kG E A k pre na fn [.c .nsl] (mn []) (nk rs unpack)=some x)
  (aW:∀xs x,S xs=some x→kG E A k pre na fn [.c (.nfl sh t xs)] (mn []) (nk rs unpack)=some x)
  {nm args h v u} (hy:yQ (pc [.c (.dat sh t)] rs (fun d=>S d.1) pack nm args h) v u):uh E.P f args h v u:=
 yPx hE hS hm hf hL cg fy (fun d x hx Ml vs hv=>by
  obtain⟨xs,_⟩:=d
  match vs,hv with
  |[v],hv=>
   have nU:qH Ml.H (bif sh then Ml.G else Ml.F) (.sl t) xs (fun _=>some v):=hv.1;have pV:=nU;simp[qH] at nU;obtain⟨A',n,c,rfl,hn,hc,h⟩:=nU;cases A' with
   |some a=>exact⟨[.c (.nfl sh t xs)],⟨⟨by simp,pV⟩,trivial⟩,aW xs x hx⟩
   |none=>
    rcases h with⟨rfl,h0⟩|⟨B,o,e,_⟩
    ·have h0:=h0 rfl;subst h0;subst hn;exact⟨[.c .nsl],⟨rfl,trivial⟩,cO x hx⟩
    ·cases e) hy
def yX.orElse:yX→yX→yX
 |.alts [],b=>b
 |a,_=>a
abbrev nZ:=Nat→Nat→List zZ→Hp→yX
def eP:List (Nat×nZ)→OE
 |[],_,_,_,_,_=>.stuck
 |(g,e)::l,k,nm,f,args,h=>bif Nat.beq g f then(e k nm args h).orElse (eP l k nm f args h) else eP l k nm f args h
def vIr (P:Program)(r:Nat×nZ):Prop:=∀k nm args h v u,yQ (r.2 k nm args h) v u→uh P r.1 args h v u
def Kn (e:nZ):Prop:=∀k nm (args:List zZ) h h',(args.any wU=false→∀id,(id∈args.flatMap yU∨nP nm id=true)→h id=h' id)→(args.any wU=true→h=h')→e k nm args h=e k nm args h'
theorem XI {a b v u}(h:yQ (a.orElse b) v u):yQ a v u∨yQ b v u:=by
 unfold yX.orElse at h;grind
theorem vMr {P}:∀{l},(∀r∈l,vIr P r)→yOk P (eP l)
 |[],_=>nofun
 |(g,e)::l,hl=>fun k nm f args h v u hy=>by
  have ih:=vMr (l:=l) fun r hr=>hl r (by grind)
  unfold eP at hy;cases hg:Nat.beq g f with
  |false=>rw[hg] at hy;exact ih k nm f args h v u hy
  |true=>
   rw[hg] at hy;have:g=f:=by simp_all
   subst this;rcases XI hy with hy|hy
   ·exact hl (g,e) (by simp) k nm args h v u hy
   ·exact ih k nm g args h v u hy
theorem vCq:∀{l},(∀r∈l,Kn r.2)→kg (eP l)
 |[],_=>fun k nm f args h h' _ _=>rfl
 |(g,e)::l,hl=>fun k nm f args h h' h1 h2=>by
  have ih:=vCq (l:=l) (by grind) k nm f args h h' h1 h2;unfold eP;have he:e k nm args h=e k nm args h':=hl (g,e) (by simp) k nm args h h' h1 h2;rw[ih,he]
section
variable {h h':Hp}
theorem XJ {t c}(hh:∀id∈vO c,h id=h' id):BG h t c=BG h' t c:=by
 have e:=Pp hh;unfold BG;grind
theorem vBv {p c}(hh:∀id∈vO c,h id=h' id):ur h p c=ur h' p c:=by
 have e:=fun t=>XJ (t:=t) hh
 unfold ur;grind
theorem yQy:∀{l cs},(∀id∈cs.flatMap vO,h id=h' id)→BH h l cs=BH h' l cs
 |[],[],_
 |[],_::_,_
 |_::_,[],_=>rfl
 |p::l,c::cs,hh=>by
  simp  at hh;unfold BH;rw[vBv fun id hi=>hh id (.inl hi),yQy (by grind)]
theorem XK {ls}:uu h ls []=uu h' ls []:=by
 cases ls<;>rfl
theorem XM {s:AS}{a}(hb:wU a=false):s.get h a=s.get h' a:=by
 unfold AS.get;cases s with
 |c p=>grind
 |agg l=>grind
 |ptr l=>
  cases a with
  |c x=>cases x<;>first|rfl|(exact absurd hb (by nofun))
  |_=>rfl
 |fn f bA=>
  cases a with
  |c x=>cases x with
   |fn g ids=>
    cases ids with
    |nil=>dsimp only;rw[XK]
    |cons _ _=>exact absurd hb (by nofun)
   |_=>rfl
  |_=>rfl
theorem XN {s:AS}{a cs}(hb:wU a=false)(e:s.get h a=some cs):∀id∈cs.flatMap vO,id∈yU a:=by
 unfold AS.get at e;split at e
 ·cases e;intro id an;simp  at an;exact an
 ·obtain⟨_,e⟩:=wQ e;cases e;exact fun id an=>an
 ·exact absurd hb (by nofun)
 ·rename_i f bA g ids;obtain⟨_,e⟩:=wQ e;cases ids with
  |nil=>cases bA with
   |nil=>cases e;simp
   |cons _ _=>cases e
  |cons _ _=>exact absurd hb (by nofun)
 ·cases e
theorem yZt:∀{l as},as.any wU=false→sE h l as=sE h' l as
 |[],[],_
 |[],_::_,_
 |_::_,[],_=>rfl
 |s::l,a::as,hb=>by
  simp only[List.any_cons,Bool.or_eq_false_iff] at hb;unfold sE;rw[XM (h:=h) (h':=h') hb.1,yZt hb.2]
theorem yZ1:∀{l as cs},as.any wU=false→sE h l as=some cs→∀id∈cs.flatMap vO,id∈as.flatMap yU
 |[],[],cs,_,e=>by cases e;simp
 |s::l,a::as,cs,hb,e=>by
  simp only[List.any_cons,Bool.or_eq_false_iff] at hb;unfold sE at e;split at e
  ·rename_i c1 rest e1 e2;cases e;intro id an;rw[List.flatMap_append,List.mem_append] at an;rw[List.flatMap_cons,List.mem_append];rcases an with an|an
   ·exact .inl (XN hb.1 e1 id an)
   ·exact .inr (yZ1 hb.2 e2 id an)
  ·cases e
theorem XO {l as}(hb:as.any wU=false)(hh:∀id∈as.flatMap yU,h id=h' id):BI h l as=BI h' l as:=by
 unfold BI;rw[yZt (h:=h) (h':=h') hb];cases e:sE h' l as with
 |none=>rfl
 |some cs=>exact yQy fun id an=>hh id (yZ1 hb e id an)
theorem EE {x}:[x].flatMap vO=yU (.c x):=by simp[yU]
theorem XP {c c' u}(e:oS h c=some (c',u)):(∀id∈vO c',id∈vO c)∧(wU (.c c')=true→wU (.c c)=true):=by
 cases c with
 |osl id r=>
  unfold oS at e;dsimp only at e;split at e
  ·cases e;exact⟨nofun,nofun⟩
  ·cases r with
   |none=>cases e;exact⟨nofun,nofun⟩
   |some _=>cases e
  ·cases e
 |mrow _ _ _=>cases e
 |_=>cases e;simp
theorem EF:∀{l cs},(∀id∈cs.flatMap vO,h id=h' id)→gF h l cs=gF h' l cs
 |[],cs,_=>by rfl
 |true::l,[],_
 |false::l,[],_=>rfl
 |true::l,c::cs,hh=>by
  simp  at hh;unfold gF;rw[yKt fun id hi=>hh id (.inl hi),EF (by grind)]
 |false::l,c::cs,hh=>by
  unfold gF;rw[EF (by grind)]
theorem EG:∀{l cs aT u},gF h l cs=some (aT,u)→∀id∈aT.flatMap vO,id∈cs.flatMap vO
 |[],cs,aT,u,e=>by cases cs<;>cases e<;>exact by simp
 |true::l,[],aT,u,e
 |false::l,[],aT,u,e=>by cases e;simp
 |true::l,c::cs,aT,u,e=>by
  unfold gF at e;split at e
  ·rename_i c1 u1 nh sj e1 e2;cases e;intro id an;rw[List.flatMap_cons,List.mem_append] at an⊢;exact an.imp ((XP e1).1 id) (EG e2 id)
  ·cases e
 |false::l,c::cs,aT,u,e=>by
  unfold gF at e;split at e
  ·rename_i nh sj e2;cases e;intro id an;rw[List.flatMap_cons,List.mem_append] at an⊢;exact an.imp (by simp) (EG e2 id)
  ·cases e
theorem XQ {s a}(hh:∀id∈yU a,h id=h' id):xy h s a=xy h' s a:=by
 unfold xy;cases s with
 |c p=>cases a with
  |c x=>
   have:=EF (h:=h) (h':=h') (l:=[p.isKept]) (cs:=[x]) (by rw[EE];exact hh);simp_all
  |_=>rfl
 |agg l=>cases a with
  |agg xs=>
   have:=EF (h:=h) (h':=h') (l:=l.map PC.isKept) (cs:=xs) hh;simp_all
  |_=>rfl
 |_=>rfl
theorem XR {s a a' u}(e:xy h s a=some (a',u)):(∀id∈yU a',id∈yU a)∧(wU a=false→wU a'=false):=by
 unfold xy at e;split at e
 ·rename_i p x;split at e
  ·rename_i y u1 e1;cases e;refine⟨fun id an=>by have:=EG e1 id (by rw[EE];omega);rwa [EE] at this,fun hb=>?_⟩;cases hk:p.isKept with
   |false=>rw[hk] at e1;cases e1;exact hb
   |true=>
    rw[hk] at e1;unfold gF at e1;split at e1
    ·rename_i c1 u2 nh sj e2 e3;cases e1;cases hy:wU (.c y) with
     |false=>rfl
     |true=>rw[(XP e2).2 hy] at hb;cases hb
    ·cases e1
  ·cases e
 ·split at e
  ·rename_i ys u1 e1;cases e;exact⟨EG e1,fun _=>rfl⟩
  ·cases e
 simp_all
theorem yK1:∀{l as},(∀id∈as.flatMap yU,h id=h' id)→sG h l as=sG h' l as
 |[],as,_=>by rfl
 |_::_,[],_=>rfl
 |s::l,a::as,hh=>by
  simp  at hh;unfold sG;rw[XQ fun id hi=>hh id (.inl hi),yK1 (by grind)]
theorem yRz:∀{l as fc u},sG h l as=some (fc,u)→(∀id∈fc.flatMap yU,id∈as.flatMap yU)∧(as.any wU=false→fc.any wU=false)
 |[],as,fc,u,e=>by cases as<;>cases e<;>exact by simp
 |s::l,[],fc,u,e=>by cases e;simp
 |s::l,a::as,fc,u,e=>by
  unfold sG at e;split at e
  ·rename_i a1 u1 XB sj e1 e2;obtain⟨k1,k2⟩:=XR e1;obtain⟨k3,k4⟩:=yRz e2;grind
  ·cases e
theorem XS:∀{n nm},(∀i,i<n→h (nm+i)=h' (nm+i))→xx h nm n=xx h' nm n
 |0,_,_=>rfl
 |n+1,nm,hh=>by
  unfold xx;have:=hh 0 (by omega);rw[Nat.add_zero] at this;rw[this,XS (by grind)]
end
theorem vAf {as rs X}{S:Nat→AD as→Option X}{pack}:Kn fun k nm args h=>pc as rs (S k) pack nm args h:=by
 intro k nm args h h' h1 h2;cases hb:args.any wU with
 |true=>rw[h2 hb]
 |false=>
  have hh:=h1 hb;show pc as rs (S k) pack nm args h=pc as rs (S k) pack nm args h';unfold pc;rw[yK1 (h:=h) (h':=h') (by grind)];cases e:sG h' as args with
  |none=>rfl
  |some p=>
   obtain⟨eO,u⟩:=p;obtain⟨k1,k2⟩:=yRz e;dsimp only;rw[XO (h:=qL h u) (h':=qL h' u) (k2 hb) fun id an=>BA (by grind)];cases BI (qL h' u) as eO with
   |none=>rfl
   |some d=>
    cases hle:Nat.ble rs.cells.length 100 with
    |false=>simp
    |true=>
     have hle:=Nat.le_of_ble_eq_true hle;rw [XS (h := h) (h' := h') fun i hi => hh _ (.inr (by
      simp only[nP,Bool.and_eq_true];exact⟨by simp,by simp[Nat.blt_eq];omega⟩))]
def n9:Code→List Code
 |.seq a b=>n9 a++n9 b
 |.cond _ a b=>n9 a++n9 b
 |.block _ b=>n9 b
 |.loop b=>[b]
 |_=>[]
def zR (c:Code)(i:Nat):Code:=match(n9 c)[i]? with
 |some b=>b
 |none=>.skip
def zS (fn:Func):Code:=match fn.body with
 |some c=>c
 |none=>.skip
def vB9 (P:Program)(A:zV)(pre na nt:Nat)(b:Code):Prop:=(∃L,xh A b=some L∧zT P pre na nt b L)∨(xh A b=none∧wS P A pre na nt b)
theorem XT {P A pre na nt}:∀c,(∀b∈n9 c,vB9 P A pre na nt b)→wS P A pre na nt c:=by
 intro c
 induction c with
 |seq a b El Em=>exact fun h=>⟨El fun x hx=>h x (List.mem_append_left _ hx),Em fun x hx=>h x (List.mem_append_right _ hx)⟩
 |cond t a b El Em=>exact fun h=>⟨El fun x hx=>h x (List.mem_append_left _ hx),Em fun x hx=>h x (List.mem_append_right _ hx)⟩
 |block id b ih=>exact fun h=>ih h
 |loop b ih=>
  intro h;rcases h b (List.mem_cons_self ..) with⟨L,h1,h2⟩|⟨h1,h2⟩
  ·refine⟨by grind,by grind⟩
  ·refine⟨fun L' h3=>?_,fun _=>h2⟩;simp_all
 |_=>exact fun _=>trivial
theorem BM {P A pre na nt c n}(hn:(n9 c).length=n)(h:∀i,i<n→vB9 P A pre na nt (zR c i)):wS P A pre na nt c:=
 XT c fun b hb=>by
  obtain⟨i,hi,rfl⟩:=List.getElem_of_mem hb;have e:zR c i=(n9 c)[i]:=by
   unfold zR;grind
  grind
theorem mq {P A pre na nt c n}(hn:(n9 c).length=n)(h:∀i,i<n→∃L,xh A (zR c i)=some L∧zT P pre na nt (zR c i) L):wS P A pre na nt c:=
 BM hn fun i hi=>.inl (h i hi)
theorem vY8 {P A pre na nt c}(hn:(n9 c).length=0):wS P A pre na nt c:=mq hn (by simp)
theorem body_loops {P A pre na fn}(h:wS P A pre na fn.ntmps (zS fn)):∀c,fn.body=some c→wS P A pre na fn.ntmps c:=fun c hc=>by
 unfold zS at h;simp_all
theorem Ko {P f fn}(hf:P.funcs[f]? =some fn)(hb:fn.body.isNone=false)(hn:(fn.name== "runtime.NumGoroutine")=false):∀vs w,(callFunc f vs).run P w=.ok (.enter f vs) w:=fun vs w=>by
 have h1:(program).run P w=.ok P w:=rfl;unfold callFunc;simp only[Sem.run_bind,h1,Result.andThen_ok,hf,hn,hb,Bool.false_eq_true,if_false,Sem.run_pure]
abbrev zA (x:Int):Int:=IntKind.wrap .i64 x
abbrev yM (k:IntKind)(x y:Int):Int:=tO (fun _ a b=>a&&&b) k x y
abbrev wV (k:IntKind)(x y:Int):Int:=tO (fun _ a b=>a|||b) k x y
abbrev shl (k:IntKind)(x y:Int):Int:=k.wrap (x*2^(min y.toNat k.bits))
abbrev shr (k:IntKind)(x y:Int):Int:=x.fdiv (2^(min y.toNat k.bits))
abbrev zL (n b:Nat):Bool:=Nat.ble (n*b) 140737488355328&&Nat.ble n 140737488355328
abbrev pg (l c:Int)(b:Nat):Bool:=decide (0≤l)&&decide (l≤c)&&decide (c*(b:Int)≤140737488355328)&&decide (c≤140737488355328)
abbrev yI (lt:Bool)(x y:Int):Int:=bif lt then(bif decide (y<x) then y else x) else(bif decide (y>x) then y else x)
abbrev XU (xs:List (List Int))(n:Nat):Option (List (List Int)):=
 nk (.c .mat) (fun d=>d.1) (.c (.osl 0 none)) ⟨fun _=>.undef,fun _=>some (.pmat 0 xs n)⟩
theorem vY6 xs n:XU xs n=bif Nat.beq xs.length n then some xs else none:=by
 unfold XU nk Kk RS.get RS.cells;dsimp only[List.map,RC.isFro,gF,wO,tP,qL];cases h:Nat.beq xs.length n<;>simp[kQ,qc,h]
theorem Kp {l:List Nat}{p:Nat→Bool}(hl:∀t∈l,p t=true)(t:Nat)(h:l.any (Nat.beq t)=true):p t=true:=by
 simp_all
theorem XV {P}:JL P (fun _=>false):=nofun
open Go.ChangeShapes Go.WideShapes Go.ChangeAt Go.RowKit
def Kq (f:TypeId→Option Ty):Nat→List (Nat×TypeId)→Option Ty
 |_,[]=>none
 |off,[x]=>bif Nat.beq x.1 off then f x.2 else none
 | off, x :: y :: l => bif Nat.beq x.1 off then (match f x.2 with
  |some a=>(match Kq f (off+a.size) (y::l) with|some b=>some (.pair a b)|none=>none)
  |none=>none) else none
def sH (P:Program):TypeDesc→List (Nat×TypeId)
 |.struct fs=>fs.toList.map fun f=>(f.offset,f.type)
 |.array n e=>(List.range n).map fun i=>(i*P.cellsOf e,e)
 |_=>[]
def ph (P:Program):Nat→TypeId→Option Ty
 |0,_=>none
 |d+1,t=>match P.underlying t with
  |some (.int k)=>bif Nat.beq (P.cellsOf t) 1 then some (.int k) else none
  |some .bool=>bif Nat.beq (P.cellsOf t) 1 then some .bool else none
  |some (.slice e)=>bif Nat.beq (P.cellsOf t) 1&&Nat.ble 1 (P.bytesOf e) then(match ph P d e with|some a=>some (.sl a)|none=>none) else none
  |some x=>match Kq (ph P d) 0 (sH P x) with
   |some a=>bif Nat.beq (P.cellsOf t) a.size then some a else none
   |none=>none
  |none=>none
def Wf:(t:Ty)→t.den→Prop
 |.int k,n=>(Lit.int k n).wf=true
 |.bool,_=>True
 |.sl t,xs=>xs.length≤reachBytes∧∀i (h:i<xs.length),Wf t xs[i]
 |.pair a b,p=>Wf a p.1∧Wf b p.2
theorem XW {P}:∀{d t ty},ph P d t=some ty→P.cellsOf t=ty.size
 |d+1,t,ty,h=>by
  unfold ph at h;split at h
  ·obtain⟨h1,h2⟩:=wQ h;cases h2;exact Nat.eq_of_beq_eq_true h1
  ·obtain⟨h1,h2⟩:=wQ h;cases h2;exact Nat.eq_of_beq_eq_true h1
  ·obtain⟨h1,h2⟩:=wQ h;rw[Bool.and_eq_true] at h1;split at h2
   ·cases h2;exact Nat.eq_of_beq_eq_true h1.1
   ·cases h2
  ·split at h
   ·obtain⟨h1,h2⟩:=wQ h;simp_all
   ·cases h
  ·cases h
section
variable {H:Type} {enc:TypeId×Value→H} {P:Program} {w:World}
abbrev Kr (w:World):Nat→Prop:=fun b=>b<w.heap.size
theorem XX {a n cs}(h:w.cells? 0 a n=some cs):cs.length=n∧∀i,i<n→∃v,cs[i]? =some v∧w.cell? (a.add i)=some v:=by
 have hl:=mapM_some_length h;have hg:=mapM_some_get h;simp at hl;refine⟨hl,fun i hi=>?_⟩;have:=hg i i (by simp[hi]);simp_all
theorem vLe {a v}(h:w.cell? a=some v):a.spot=none∧a.block<w.heap.size∧yY w.heap a.block a.off=some v:=by
 unfold World.cell? at h;cases hb:w.heap[a.block]? with
 |none=>simp_all
 |some o=>
  rw[hb] at h;cases o with
  |cells c e z=>
   dsimp only at h;split at h
   ·cases h
   ·refine⟨by simp_all,?_,?_⟩
    ·grind
    ·unfold yY;simp_all
  |_=>cases h
theorem ySl {α:Type}{p:Nat→α→Prop}:∀n,(∀i,i<n→∃x,p i x)→∃xs:List α,xs.length=n∧∀i h,p i xs[i]
 |0,_=>by simp
 |n+1,h=>by
  obtain⟨xs,h1,h2⟩:=ySl n fun i hi=>h i (by omega)
  obtain⟨x,hx⟩:=h n (by omega);refine⟨xs++[x],by simp[h1],fun i hi=>?_⟩;grind
def jG (l:List Nat):Prop:=l.all (· ≤reachBytes)=true
theorem qe {l m}:jG (l++m)↔jG l∧jG m:=by simp[jG]
theorem vCy {P e}{d:DataW H}:∀{l},jG (DataW.weightsAll P e l)→d∈l→jG (d.weights P e)
 |a::l,h,hd=>by
  have h:=qe.1 h;rcases List.mem_cons.1 hd with rfl|hd
  ·exact h.1
  ·exact vCy h.2 hd
theorem vMg {P e}:∀{ts} {ds:List (DataW H)},(∀t∈ts,t=e)→jG (DataW.weightsAll P e ds)→jG (DataW.weightsEach P ts ds)
 |t::ts,d::ds,ht,h=>by
  have h:=qe.1 h;rw[ht t (by simp)];exact qe.2 ⟨h.1,vMg (by grind) h.2⟩
 |[],_,_,_=>by simp[DataW.weightsEach,jG]
 |_::_,[],_,_=>by rfl
def PD (P:Program)(w:World)(ty:Ty)(cs:List Value):Prop:=∃x:ty.den,cs.length=ty.size∧qH w.heap (Kr w) ty x (fun j=>cs[j]?)∧Wf ty x
theorem yZg {d fuel}(ih:∀t ty cs x,ph P d t=some ty→DataW.trod enc P w 0 (fun _=>true) true fuel t cs=some x→jG (x.1.weights P t)→PD P w ty cs):
  ∀l off ty (cs:List Value) out,Kq (ph P d) off l=some ty→off+ty.size≤cs.length→
   (l.mapM fun p=>DataW.trod enc P w 0 (fun _=>true) true fuel p.2 ((cs.drop p.1).take (P.cellsOf p.2)))=some out→jG (DataW.weightsEach P (l.map (·.2)) (out.map (·.1)))→PD P w ty ((cs.drop off).take ty.size)
 |[x],off,ty,cs,out,h,hc,hm,hw=>by
  obtain⟨h1,h2⟩:=wQ h;have ho:x.1=off:=by simpa using h1
  simp only[List.mapM_cons,List.mapM_nil,Option.pure_def,Option.bind_eq_bind,Option.bind_eq_some_iff] at hm;obtain⟨y,hy,_,e,e'⟩:=hm;cases e;cases e';rw[ho,XW h2] at hy;exact ih _ _ _ _ h2 hy (qe.1 hw).1
 |x::y::l,off,ty,cs,out,h,hc,hm,hw=>by
  obtain⟨h1,h2⟩:=wQ h;have ho:x.1=off:=by simpa using h1
  split at h2
  ·rename_i a ha;split at h2
   ·rename_i b hb;cases h2;simp only[Ty.size] at hc⊢;rw[List.mapM_cons] at hm;simp only[Option.pure_def,Option.bind_eq_bind,Option.bind_eq_some_iff] at hm;obtain⟨z,hz,zs,hzs,e⟩:=hm;cases e;rw[ho,XW ha] at hz;have hw:=qe.1 hw;obtain⟨p,p1,p2,p3⟩:=ih _ _ _ _ ha hz hw.1;obtain⟨q,q1,q2,q3⟩:=yZg ih (y::l) (off+a.size) b cs zs hb (by omega) hzs hw.2;refine⟨(p,q),by simp only[List.length_take,List.length_drop,Ty.size];omega,⟨?_,?_⟩,p3,q3⟩
    ·refine vF (fun _ h=>h) (by simp) a p _ _ (fun j hj=>?_) p2;simp only[List.getElem?_take,List.getElem?_drop];rw[if_pos (by omega),if_pos hj]
    grind
   ·cases h2
  ·cases h2
theorem XY:∀d t ty fuel cs x,ph P d t=some ty→DataW.trod enc P w 0 (fun _=>true) true fuel t cs=some x→jG (x.1.weights P t)→PD P w ty cs
 |0,_,_,_,_,_,h,_,_=>by cases h
 |d+1,t,ty,0,cs,x,_,h,_=>by simp[DataW.trod] at h
 |d+1,t,ty,fuel+1,cs,x,hl,h,hw=>by
  unfold ph at hl;split at hl
  ·rename_i k hu;obtain⟨_,hl⟩:=wQ hl;cases hl;obtain⟨n,rfl,_,xE⟩:=DataW.trod_int hu h;exact⟨n,rfl,rfl,xE⟩
  ·rename_i hu;obtain⟨_,hl⟩:=wQ hl;cases hl;obtain⟨b,rfl,_⟩:=DataW.trod_bool hu h;exact⟨b,rfl,rfl,trivial⟩
  ·rename_i e hu;obtain⟨kb,hl⟩:=wQ hl;rw[Bool.and_eq_true] at kb;have kb:=Nat.le_of_ble_eq_true kb.2;split at hl
   ·rename_i a ha;cases hl;rcases DataW.trod_slice hu h with⟨rfl,_⟩|⟨ad,len,cap,elems,rest,n,hn,rfl,rfl,_,Vp,hm,hel,hg,_,_⟩
    ·refine⟨([]:List a.den),rfl,?_,?_⟩
     ·simp only[qH];exact⟨none,0,0,rfl,rfl,Nat.le_refl _,.inl ⟨trivial,fun _=>rfl⟩⟩
     ·simp only[Wf];exact by simp
    ·unfold DataW.weights at hw;rw[hu] at hw;have hw:jG ([((elems.map (·.1)).length+(rest.map (·.1)).length)*P.bytesOf e]++(DataW.weightsAll P e (elems.map (·.1))++DataW.weightsAll P e (rest.map (·.1)))):=hw;obtain⟨sJ,hw⟩:=qe.1 hw;have hw2:=(qe.1 hw).1;have hlen:len≤reachBytes:=by
      simp only[jG,List.all_cons,List.all_nil,Bool.and_true,decide_eq_true_eq,List.length_map] at sJ;have:=Nat.mul_le_mul_left (elems.length+rest.length) kb;omega
     have key:∀i,i<len→∃x:a.den,(qH w.heap (Kr w) a x (fun j=>yY w.heap ad.block (ad.off+i*a.size+j))∧(i=0→ad.spot=none)∧ad.block<w.heap.size)∧Wf a x:=by
      intro i hi;have h1:=hg i hi;have WV:i<elems.length:=by omega
      rw[List.getElem?_eq_getElem WV,Option.bind_eq_some_iff] at h1;obtain⟨cs,nY,htr⟩:=h1;rw[XW ha] at nY;obtain⟨y,y1,y2,y3⟩:=XY d e a n cs _ ha htr (vCy hw2 (by grind));obtain⟨c1,c2⟩:=XX nY;have BN:∀j,((ad.add (i*a.size)).add j).block=ad.block∧((ad.add (i*a.size)).add j).off=ad.off+i*a.size+j:=by
       intro j;unfold Addr.add;constructor
       ·split<;>split<;>rfl
       ·split<;>split<;>simp_all
      have at0:(i=0→ad.spot=none)∧ad.block<w.heap.size:=by
       obtain⟨v,_,hv⟩:=c2 0 a.size_pos;have h1:=vLe hv;refine⟨fun h0=>?_,by have:=h1.2.1;rwa [(BN 0).1] at this⟩;have h2:=h1.1;subst h0
       simpa[Addr.add] using h2
      refine⟨y,⟨vF (fun _ h=>h) (fun _ _=>rfl) a y _ _ (fun j hj=>?_) y2,at0⟩,y3⟩;obtain⟨v,v1,v2⟩:=c2 j hj;rw[v1];have h1:=(vLe v2).2.2
      rwa [(BN j).1,(BN j).2] at h1
     obtain⟨xs,x1,x2⟩:=ySl len key;refine⟨xs,rfl,?_,?_⟩
     ·simp only[qH];refine⟨some ad,len,cap,rfl,x1.symm,Vp,?_⟩;by_cases h0:xs=[]
      ·exact by grind
      ·refine .inr ⟨ad.block,ad.off,?_,?_,fun i hi=>(x2 i hi).1.1⟩
       ·have:=(x2 0 (List.length_pos_iff.2 h0)).1.2.1 rfl;cases ad;simp at this;rw[this]
       ·exact by grind
     ·simp only[Wf];exact by grind
   ·cases hl
  ·rename_i y n1 n2 n3 hu;split at hl
   ·rename_i a ha;obtain⟨dH,hl⟩:=wQ hl;cases hl;have dH:P.cellsOf t=ty.size:=by simpa using dH
    have fin:∀out,cs.length=P.cellsOf t→((sH P y).mapM fun p=>DataW.trod enc P w 0 (fun _=>true) true fuel p.2 ((cs.drop p.1).take (P.cellsOf p.2)))=some out→jG (DataW.weightsEach P ((sH P y).map (·.2)) (out.map (·.1)))→PD P w ty cs:=by
     intro out hlen kL hw;have:=yZg (fun t' ty' aT x' h1 h2 h3=>XY d t' ty' fuel aT x' h1 h2 h3) (sH P y) 0 ty cs out ha (by omega) kL hw
     rwa [List.drop_zero,List.take_of_length_le (by omega)] at this
    unfold DataW.trod at h;rw[hu] at h;cases y with
    |struct fs=>
     dsimp only at h;split at h
     ·rename_i hlen;rw[Option.map_eq_some_iff] at h;obtain⟨out,ho,rfl⟩:=h;unfold DataW.weights at hw;rw[hu] at hw;refine fin out hlen ?_ (by rw[sH,List.map_map];exact hw);simp only[sH,List.mapM_map];exact ho
     ·cases h
    |array n e=>
     dsimp only at h;split at h
     ·rename_i hlen;rw[Option.map_eq_some_iff] at h;obtain⟨out,ho,rfl⟩:=h;unfold DataW.weights at hw;rw[hu] at hw;refine fin out hlen ?_ (vMg (fun t ht=>by simp[sH] at ht;exact ht.2.symm) hw);simp only[sH,List.mapM_map];exact ho
     ·cases h
    |_=>simp[sH,Kq] at ha
   ·cases hl
  ·cases hl
end
open Go.ChangeShapes Go.WideShapes Go.ChangeAt Go.RowKit
def uv (sh:Bool):Ty→List PC
 |.int k=>[.int k]
 |.bool=>[.bool]
 |.sl t=>[.dat sh t]
 |.pair a b=>uv sh a++uv sh b
def xF:(l m:List PC)→PL l→PL m→PL (l++m)
 |[],_,_,e=>e
 |_::l,m,d,e=>(d.1,xF l m d.2 e)
theorem XZ:∀l m d e,wF (l++m) (xF l m d e)=wF l d++wF m e
 |[],_,_,_=>rfl
 |p::l,m,d,e=>by
  show EC p d.1::wF (l++m) (xF l m d.2 e)=EC p d.1::(wF l d.2++wF m e);rw[XZ l m d.2 e]
def sK sh:(t:Ty)→t.den→PL (uv sh t)
 |.int _,n=>(n,())
 |.bool,b=>(b,())
 |.sl _,xs=>(xs,())
 |.pair a b,p=>xF _ _ (sK sh a p.1) (sK sh b p.2)
def WfP:(p:PC)→p.den→Prop
 |.int k,n=>(Lit.int k n).wf=true
 |.bool,_=>True
 |.dat _ t,xs=>Wf (.sl t) xs
 |.fn _,_=>True
 |.nil,_=>True
 |.nilp,_=>True
def uw:(l:List PC)→PL l→Prop
 |[],_=>True
 |p::l,d=>WfP p d.1∧uw l d.2
theorem X0:∀l m d e,uw l d→uw m e→uw (l++m) (xF l m d e)
 |[],_,_,_,_,h=>h
 |_::l,m,d,e,h,h'=>⟨h.1,X0 l m d.2 e h.2 h'⟩
theorem X1 sh:∀t x,Wf t x→uw (uv sh t) (sK sh t x)
 |.int _,_,h
 |.bool,_,h
 |.sl _,_,h=>⟨h,trivial⟩
 |.pair a b,p,h=>X0 _ _ _ _ (X1 sh a p.1 h.1) (X1 sh b p.2 h.2)
theorem PE:∀l d,(wF l d).length=l.length
 |[],_=>rfl
 |p::l,d=>by
  show(wF l d.2).length+1=l.length+1;rw[PE l d.2]
def M0 (w:World):zN:=⟨fun _=>none,Kr w,Kr w,mn [],w.heap⟩
theorem X2 w:Ok (M0 w) where
 obj:=nofun
 non:=fun _ _=>rfl
 disj:=fun i j oi oj Ci Cj b _ h=>by cases h
 own:=nofun
 GF:=fun _ h=>h
 Flt:=fun _ h=>h
theorem X3 sh {w}:∀t x cs,cs.length=t.size→qH w.heap (Kr w) t x (fun j=>cs[j]?)→zO (qA (M0 w)) (wF (uv sh t) (sK sh t x)) cs
 |.int k,n,cs,hl,h=>by
  match cs,hl with
  |[c],_=>
   have e:c=.int k n:=by simpa[qH] using h
   exact⟨e,trivial⟩
 |.bool,b,cs,hl,h=>by
  match cs,hl with
  |[c],_=>
   have e:c=.bool b:=by simpa[qH] using h
   exact⟨e,trivial⟩
 |.sl t,xs,cs,hl,h=>by
  match cs,hl with
  |[c],_=>
   refine⟨?_,trivial⟩;have h':=vF (F':=(bif sh then(M0 w).G else(M0 w).F)) (fun b h=>by cases sh<;>exact h) (fun b _=>rfl) (.sl t) xs (fun j=>[c][j]?) (fun _=>some c) (by grind) h;exact h'
 |.pair a b,p,cs,hl,h=>by
  have dL:cs.length=a.size+b.size:=hl;have h1:=X3 sh a p.1 (cs.take a.size) (by grind) (vF (fun _ h=>h) (by simp) a p.1 _ _ (by grind) h.1);have h2:=X3 sh b p.2 (cs.drop a.size) (by grind) (vF (by simp) (fun _ _=>rfl) b p.2 _ _ (by grind) h.2);show zO _ (wF (uv sh a++uv sh b) (xF _ _ (sK sh a p.1) (sK sh b p.2))) cs;rw[XZ];have:=zO.append h1 h2;simp_all
def sL (sh : Bool) (P : Program) (t : TypeId) (ty : Ty) : AS := bif eL P t == some true then .agg (uv sh ty) else (match ty with
 |.int k=>.c (.int k)|.bool=>.c .bool|.sl t=>.c (.dat sh t)|.pair a b=>.agg (uv sh (.pair a b)))
def PF (P:Program):List TypeId→Option (List Ty)
 |[]=>some []
 |t::ts=>match ph P 8 t,PF P ts with
  |some a,some l=>some (a::l)
  |_,_=>none
def ux (sh:Bool)(P:Program):List TypeId→List Ty→List AS
 |t::ts,a::l=>sL sh P t a::ux sh P ts l
 |_,_=>[]
theorem vUe {P t ty}(h:ph P 8 t=some ty)(ha:(eL P t==some true)=false):(∃k,P.underlying t=some (.int k)∧ty=.int k)∨(P.underlying t=some .bool∧ty=.bool)∨∃e a,P.underlying t=some (.slice e)∧ty=.sl a:=by
 unfold ph at h;split at h
 ·grind
 ·grind
 ·grind
 ·rename_i x _ _ _ hu;split at h
  ·rename_i a hx;unfold eL at ha;rw[hu] at ha;cases x<;>first|(simp[sH,Kq] at hx;done)|(cases ha)
  ·cases h
 ·cases h
section
variable {H:Type} {enc:TypeId×Value→H} {P:Program} {w:World}
theorem X4 sh {t ty v d ps base}(hl:ph P 8 t=some ty)(fT:Value.okWide P w .any base t v)(h:DataW.Trod enc P w 0 (fun _=>true) true t v d ps)(hw:jG (d.weights P t)):
  ∃x:PL (sL sh P t ty).cells,(∀n,zX (M0 w) ((sL sh P t ty).mk n (wF _ x)) v)∧(sL sh P t ty).boxes (wF _ x)=[]∧uw _ x:=by
 obtain⟨fuel,hf⟩:=h;obtain⟨x,x1,x2,x3⟩:=XY 8 t ty fuel _ _ hl hf hw;have dv:=X3 sh ty x _ x1 x2;have EH:=X1 sh ty x x3;unfold sL;cases ha:(eL P t==some true) with
 |true=>
  refine⟨sK sh ty x,fun n=>?_,rfl,EH⟩;have si:eL P t=some true:=by simp_all
  have hv:∃cs,v=.agg cs:=by
   unfold eL at si;unfold Value.okWide at fT;grind
  obtain⟨cs,rfl⟩:=hv;exact⟨cs,rfl,dv⟩
 |false=>
  rcases vUe hl ha with⟨k,hu,rfl⟩|⟨hu,rfl⟩|⟨e,a,hu,rfl⟩
  ·have hv:∃n,v=.int k n:=by
    simp[Value.okWide,Cell.okWide] at fT;cases v<;>simp_all[Cell.ok]
   obtain⟨n0,rfl⟩:=hv;exact⟨sK sh _ x,fun n=>dv.1,rfl,EH⟩
  ·have hv:∃b,v=.bool b:=by
    simp[Value.okWide,Cell.okWide] at fT;cases v<;>simp_all[Cell.ok]
   obtain⟨b,rfl⟩:=hv;exact⟨sK sh _ x,fun n=>dv.1,rfl,EH⟩
  ·obtain⟨ad,len,cap,rfl⟩:=okWide_slice hu fT;exact⟨sK sh _ x,fun n=>dv.1,rfl,EH⟩
theorem yYi sh {base}:∀ts tys vs ds ps n,PF P ts=some tys→(∀(j:Nat) t v,ts[j]? =some t→vs[j]? =some v→Value.okWide P w .any base t v)→
  DataW.TrodAll enc P w 0 (fun _=>true) true ts vs ds ps→jG (DataW.weightsEach P ts ds)→∃x:AD (ux sh P ts tys),zO (zX (M0 w)) (mm (ux sh P ts tys) (wF _ x) n).1 vs∧(mm (ux sh P ts tys) (wF _ x) n).2=[]∧uw _ x
 |[],tys,vs,ds,ps,n,hl,fT,h,_=>by
  match vs,ds,h with
  |[],[],_=>exact⟨(),trivial,rfl,trivial⟩
 |t::ts,tys,vs,ds,ps,n,hl,fT,h,hw=>by
  unfold PF at hl;split at hl
  ·rename_i a l ha dL;cases hl
   match vs,ds,h with
   |v::vs,d::ds,h=>
    obtain⟨p,q,h1,h2,_⟩:=h;have hw:=qe.1 hw;obtain⟨x,x1,x2,x3⟩:=X4 sh ha (fT 0 t v rfl rfl) h1 hw.1;obtain⟨y,y1,y2,y3⟩:=yYi sh ts l vs ds q n dL (fun j t' v' h1 h2=>fT (j+1) t' v' h1 h2) h2 hw.2;refine⟨xF _ _ x y,?_⟩;have e:wF ((ux sh P (t::ts) (a::l)).flatMap AS.cells) (xF _ _ x y)=wF _ x++wF _ y:=XZ _ _ _ _;have ht:(wF _ x++wF _ y).take (sL sh P t a).cells.length=wF _ x:=by
     rw[List.take_append_of_le_length (by rw[PE];omega),List.take_of_length_le (by rw[PE];omega)]
    have hd:(wF _ x++wF _ y).drop (sL sh P t a).cells.length=wF _ y:=by
     rw[List.drop_append_of_le_length (by rw[PE];exact by simp),List.drop_of_length_le (by grind),List.nil_append]
    rw[e];have em:mm (ux sh P (t::ts) (a::l)) (wF _ x++wF _ y) n=((sL sh P t a).mk n (wF _ x)::(mm (ux sh P ts l) (wF _ y) n).1,(mm (ux sh P ts l) (wF _ y) n).2):=by
     show((sL sh P t a).mk n _::_,(sL sh P t a).boxes _++_)=_;simp_all
    rw[em];exact⟨⟨x1 n,y1⟩,y2,X0 _ _ _ _ x3 y3⟩
  ·cases hl
theorem vKp {us}{gs:List (DataW H)}:∀{ts ds},ts.length=ds.length→jG (DataW.weightsEach P (ts++us) (ds++gs))→jG (DataW.weightsEach P ts ds)
 |[],[],_,_=>by rfl
 |t::ts,d::ds,hl,h=>qe.2 ⟨(qe.1 h).1,vKp (by simp_all) (qe.1 h).2⟩
theorem vI7:∀{ts vs ds ps},DataW.TrodAll enc P w 0 (fun _=>true) true ts vs ds ps→ts.length=ds.length
 |[],[],[],_,_=>rfl
 |_::_,_::_,_::_,_,⟨_,_,_,h,_⟩=>by rw[List.length_cons,List.length_cons,vI7 h]
theorem lawArgs sh {base ts tys asp vs ds ps}(hl:PF P ts=some tys)(has:ux sh P ts tys=asp)
  (fT:∀(j:Nat) t v,ts[j]? =some t→vs[j]? =some v→Value.okWide P w .any base t v) (h:DataW.TrodAll enc P w 0 (fun _=>true) true ts vs ds ps) {us gs} (hw:jG (DataW.weightsEach P (ts++us) (ds++gs))):
  ∃x:AD asp,zO (zX (M0 w)) (mm asp (wF _ x) 0).1 vs∧(mm asp (wF _ x) 0).2=[]∧uw _ x:=by
 subst has;exact yYi sh ts tys vs ds ps 0 hl fT h (vKp (vI7 h) hw)
theorem law_calls {E}(hE:gD E)(hS:kg E.sums)(hm:E.P.follows .mixedOrders=true){A k pre f fn}(hf:E.P.funcs[f]? =some fn)(hL:∀c,fn.body=some c→wS E.P A pre 0 fn.ntmps c)
  {as d unpack} (hup:∀d,unpack d=d.1) (aW:kG E A k pre 0 fn (qb as d).1 (qb as d).2 (nk (.c .bool) unpack)=some true) (hb:(mm as (wF _ d) 0).2=[]) {vs} (hv:zO (zX (M0 w)) (mm as (wF _ d) 0).1 vs.toList):
  Calls E.P f vs w fun e w'=>e=.returned (.bool true)∧Below w.heap.size w w':=by
 have hh:(M0 w).h=(qb as d).2:=by
  show mn []=mn (mm as (wF _ d) 0).2;rw[hb]
 refine Calls.mono (Xf hE hS hm hf hL aW (M:=M0 w) (w:=w) hh rfl (X2 w) hv) fun e w' he=>?_
 cases e with
 |returned rv=>
  obtain⟨M',v,st,hK,_,hH,_,hg,_,hrv,o1,o2,o3,_⟩:=he;refine⟨?_,o1,o2,o3,?_,fun b hb=>?_⟩
  ·unfold nk at hK;split at hK
   ·rename_i r hr;unfold Kk at hr;split at hr
    ·rename_i cs nY;split at hr
     ·rename_i aT u Ee;cases v with
      |c x=>
       cases nY;have e1:aT=[x]:=by
        simp[RS.cells,RC.isFro,gF] at Ee;simp_all
       subst e1;have so:kQ (qL st.h u) [.bool] [x]=some r:=hr;cases x with
       |bool b=>
        have e2:r=(b,()):=by simp[kQ,qc] at so;grind
        have:rv=.bool b:=hrv;grind
       |_=>simp[kQ,qc] at so
      |_=>cases nY
     ·cases hr
    ·cases hr
   ·cases hK
  ·have:=hg.size;rw[hH] at this;exact this
  ·have:=hg.same b hb;rw[hH] at this;exact this
 |_=>simp_all
end
inductive XC where
 |p (c:PC)|own (t:Ty)|mat|map
 |link (j:Nat)
abbrev XC.den:XC→Type
 |.p c=>c.den|.own t=>List t.den|.mat=>List (List Int)|.map=>List (Int×Bool)|.link _=>Unit
def XC.lnk:XC→Option Nat
 |.link j=>some j
 |_=>none
def RC.lnk:RC→Option Nat
 |.link j=>some j
 |_=>none
def sM:List (Option Nat)→List Nat→List qC→Bool
 |none::l,ids,_::cs=>sM l ids cs
 |some j::l,ids,.ptr id 0::cs=>(match ids[j]? with|some k=>Nat.beq id k|none=>false)&&sM l ids cs
 |some _::_,_,_=>false
 |_,_,_=>true
def BO:List (Option Nat)→List Nat→List qC→List qC
 |none::l,ids,c::cs=>c::BO l ids cs
 |some j::l,ids,c::cs=>(match ids[j]? with|some id=>.ptr id 0|none=>c)::BO l ids cs
 |_,_,cs=>cs
def X5:List qC→Option Nat
 |[]=>none
 |.ptr id 0::_=>some id
 |_::l=>X5 l
def Ks (h:Hp):Nat→Nat→Option (List Nat)
 |0,_=>none
 |1,id=>some [id]
 |n+2,id=>match EB h id with
  | some cells => (match X5 cells with
   |some id2=>(match Ks h (n+1) id2 with|some l=>some (id::l)|none=>none)
   |none=>none)
  |none=>none
def mr:Nat→Nat→List Nat
 |_,0=>[]
 |n,m+1=>n::mr (n+1) m
abbrev XL:List XC→Type
 |[]=>Unit
 |c::l=>c.den×XL l
inductive AX where
 |c (x:XC)|agg (l:List PC)|ptr (io:Bool) (l:List XC)|fn (f:Nat) (bA:List (Bool×List XC))
 |chn (ls:List (List XC))
def AX.cells:AX→List XC
 |.c x=>[x]
 |.agg l=>l.map .p
 |.ptr _ l=>l
 |.fn _ bA=>bA.flatMap (·.2)
 |.chn ls=>ls.flatten
def AX.nb:AX→Nat
 |.ptr _ _=>1
 |.fn _ bA=>bA.length
 |.chn ls=>ls.length
 |_=>0
def AX.isChn:AX→Bool
 |.chn _=>true
 |_=>false
def EI (ls:List (List XC)):List (Bool×List XC):=ls.map fun l=>(true,l)
abbrev XD (l:List AX):Type:=XL (l.flatMap AX.cells)
def AX.looks:AX→Bool
 |.ptr _ _=>true
 |.fn _ _=>true
 |_=>false
def uy (l:List AX)(na:Nat):Bool:=l.zipIdx.all fun p=> !p.1.looks||Nat.blt p.2 na
def EJ (h:Hp)(io:Bool)(id:Nat):Option (List qC):=match io,h id with
 |true,some (.box true cells)=>some cells
 |false,some (.box _ cells)=>some cells
 |false,some (.robox cells)=>some cells
 |_,_=>none
def ki (h:Hp):List (Bool×List XC)→List Nat→Option (List qC×List (Bool×Nat))
 |[],[]=>some ([],[])
 |(io,l)::ls,id::ids=>match EJ h io id,ki h ls ids with
  |some cells,some (rest,bs)=>bif Nat.beq cells.length l.length then some (cells++rest,(io,id)::bs) else none
  |_,_=>none
 |_,_=>none
def AX.get (h:Hp):AX→zZ→Option (List qC×List (Bool×Nat))
 |.c _,.c x=>some ([x],[])
 |.agg l,.agg xs=>bif Nat.beq xs.length l.length then some (xs,[]) else none
 |.ptr io l,.c (.ptr id 0)=>ki h [(io,l)] [id]
 |.fn f bA,.c (.fn g ids)=>bif Nat.beq f g then ki h bA ids else none
 |.chn ls,.c (.ptr id 0)=>match Ks h ls.length id with
  |some ids=>ki h (EI ls) ids
  |none=>none
 |_,_=>none
def kR (h:Hp):List AX→List zZ→Option (List qC×List (Bool×Nat))
 |[],[]=>some ([],[])
 |s::l,a::as=>match s.get h a,kR h l as with
  |some (cs,bs),some (aT,BP)=>some (cs++aT,bs++BP)
  |_,_=>none
 |_,_=>none
def Kt (h:Hp):(x:XC)→qC→Option x.den
 |.p p,c=>ur h p c
 |.own t,.osl id none=>match h id with
  |some (.arr true s xs)=>iu s t xs
  |_=>none
 |.mat,.osl id none=>match h id with
  |some (.mat _ xs)=>some xs
  |_=>none
 |.map,.map id=>match h id with
  |some (.imap df)=>some df
  |_=>none
 |.link _,.ptr _ 0=>some ()
 |_,_=>none
def qf (h:Hp):(l:List XC)→List qC→Option (XL l)
 |[],[]=>some ()
 |x::l,c::cs=>match Kt h x c,qf h l cs with
  |some d,some ds=>some (d,ds)
  |_,_=>none
 |_,_=>none
def jR:List XC→List qC→List Nat
 |.p _::l,_::cs=>jR l cs
 |.link _::l,_::cs=>jR l cs
 |_::l,.osl id _::cs=>id::jR l cs
 |_::l,.map id::cs=>id::jR l cs
 |_::l,_::cs=>jR l cs
 |_,_=>[]
def Ku:List XC→List qC→List Nat
 |.p _::l,c::cs=>vO c++Ku l cs
 |_::l,_::cs=>Ku l cs
 |_,_=>[]
def wW:Nat:=500
def iB:(l:List XC)→XL l→Nat→List qC×List Obj
 |[],_,_=>([],[])
 |.p p::l,d,n=>let r:=iB l d.2 n;(EC p d.1::r.1,r.2)
 |.own t::l,d,n=>let r:=iB l d.2 (n+1);(.osl n none::r.1,.arr true t d.1::r.2)
 |.mat::l,d,n=>let r:=iB l d.2 (n+1);(.osl n none::r.1,.mat 0 d.1::r.2)
 |.map::l,d,n=>let r:=iB l d.2 (n+1);(.map n::r.1,.imap d.1::r.2)
 |.link j::l,d,n=>let r:=iB l d.2 n;(.ptr j 0::r.1,r.2)
def Kv:List (Bool×List XC)→List qC→List Obj
 |[],_=>[]
 |(io,l)::ls,cs=>(bif io then .box true (cs.take l.length) else .robox (cs.take l.length))::Kv ls (cs.drop l.length)
def AX.mk (n:Nat)(cs:List qC):AX→zZ
 |.c _=>match cs with|x::_=>.c x|[]=>.undef
 |.agg _=>.agg cs
 |.ptr _ _=>.c (.ptr n 0)
 |.fn f bA=>.c (.fn f ((List.range bA.length).map (n+·)))
 |.chn _=>.c (.ptr n 0)
def AX.boxes (cs:List qC):AX→List Obj
 |.ptr io l=>Kv [(io,l)] cs
 |.fn _ bA=>Kv bA cs
 |.chn ls=>Kv (EI ls) cs
 |_=>[]
def BQ:List AX→List qC→Nat→List zZ×List Obj
 |[],_,_=>([],[])
 |s::l,cs,n=>
  let aq:=cs.take s.cells.length;let bs:=s.boxes aq;let rest:=BQ l (cs.drop s.cells.length) (n+bs.length)
  (s.mk n aq::rest.1,bs++rest.2)
def Kw (bs rows:List Obj):Hp:=fun n=>bif Nat.ble wW n then rows[n-wW]? else bs[n]?
def kS l (d:XD l):List zZ×Hp:=
 let r:=iB (l.flatMap AX.cells) d wW;let m:=BQ l r.1 0
 (m.1,Kw m.2 r.2)
def Kx:List (Bool×List XC)→List Nat→Option (List Nat)
 |[],[]=>some []
 |(io,_)::ls,id::ids=>match Kx ls ids with
  |some l=>some (bif io then id::l else l)
  |none=>none
 |_,_=>none
def AX.io (b:Nat):AX→zZ→Option (List Nat)
 |.c _,_=>some []
 |.agg _,_=>some []
 |.ptr io l,.c (.ptr id 0)=>Kx [(io,l)] [id]
 |.fn _ bA,.c (.fn _ ids)=>Kx bA ids
 |.chn ls,_=>some (mr b ls.length)
 |_,_=>none
def PH:List AX→(Nat→zZ)→Nat→Nat→Option (List Nat)
 |[],_,_,_=>some []
 |s::l,t,n,b=>match s.io b (t n),PH l t (n+1) (b+s.nb) with
  |some a,some b=>some (a++b)
  |_,_=>none
def EK (h:Hp):List (List RC)→List Nat→Option (List qC)
 |[],[]=>some []
 |o::os,n::ns=>match h n,EK h os ns with
  |some (.box true cells),some rest=>bif Nat.beq cells.length o.length then some (cells++rest) else none
  |_,_=>none
 |_,_=>none
def X6 (h:Hp)(ns:Nat)(cs:List qC):Option (List Nat):=bif Nat.beq ns 0 then some [] else match X5 cs with
 |some id=>Ks h ns id
 |none=>none
def xG (st:St)(as:List AX)(rs:RS)(os:List (List RC))(ns:Nat)(v:zZ):Option (RL (rs.cells++os.flatten)):=
 match PH as st.t 0 0 with
 |none=>none
 |some io=>match rs.get v with
  |none=>none
  |some cs=>match X6 st.h ns cs with
   |none=>none
   |some nw=>match EK st.h os (io++nw) with
    |none=>none
    | some bs => bif tP (io ++ nw) then (match gF st.h ((rs.cells++os.flatten).map RC.isFro) (cs++bs) with
     |some (cs,u)=>bif tP (wO (rs.cells++os.flatten) cs)&&sM ((rs.cells++os.flatten).map RC.lnk) (io++nw) cs then kQ (qL st.h u) (rs.cells++os.flatten) cs else none
     |none=>none) else none
def Ky (as:List AX)(rs:RS)(os:List (List RC))(ns:Nat){X:Type}(unpack:RL (rs.cells++os.flatten)→X)(v:zZ)(st:St):Option X:=match xG st as rs os ns v with
 |some d=>some (unpack d)
 |none=>none
def PI (as:List AX)(rs:RS)(os:List (List RC))(ns:Nat)(dw:RS)(dy:List (List RC))(fz:Nat){X Y:Type}(up:RL (rs.cells++os.flatten)→X)(lI:RL (dw.cells++dy.flatten)→Y)(v:zZ)(st:St):Option (X⊕Y):=match xG st as rs os ns v with
 |some d=>some (.inl (up d))
 |none=>match xG st as dw dy fz v with
  |some d=>some (.inr (lI d))
  |none=>none
def xH:List (List RC)→List qC→List (List qC)
 |[],_=>[]
 |o::os,cs=>cs.take o.length::xH os (cs.drop o.length)
def vU:List (Bool×Nat)→List Nat
 |[]=>[]
 |(true,id)::l=>id::vU l
 |(false,_)::l=>vU l
def PJ:List (Bool×Nat)→List Nat
 |[]=>[]
 |(true,_)::l=>PJ l
 |(false,id)::l=>id::PJ l
def EL:List Nat→List (List qC)→vL
 |id::ids,cs::css=>(id,.box true cs)::EL ids css
 |_,_=>[]
def qg (ids:List Nat):vL:=ids.map fun id=>(id,.gone)
def X7 (nm:Nat)(rs:RS)(os:List (List RC))(ids:List Nat)(d:RL (rs.cells++os.flatten)):zZ×vL:=
 let r:=pb nm (rs.cells++os.flatten) d;let cs:=BO ((rs.cells++os.flatten).map RC.lnk) ids r.1
 (rs.mk (cs.take rs.cells.length),r.2++EL ids (xH os (cs.drop rs.cells.length)))
def X8 (a b:List Nat):Bool:=a.all fun x=> !b.any (Nat.beq x)
def xI (h:Hp):AX→zZ→Option (zZ×vL)
 |.c (.p p),.c x=>match gF h [p.isKept] [x] with
  |some ([x],u)=>some (.c x,u)
  |_=>none
 |.agg l,.agg xs=>match gF h (l.map PC.isKept) xs with
  |some (xs,u)=>some (.agg xs,u)
  |none=>none
 |_,a=>some (a,[])
def sN (h:Hp):List AX→List zZ→Option (List zZ×vL)
 |s::l,a::as=>match xI h s a,sN h l as with
  |some (a,u),some (as,us)=>some (a::as,u++us)
  |_,_=>none
 |_,as=>some (as,[])
def BR as (nm n:Nat)(args:List zZ)(h:Hp):Option (vL×List Nat×List Nat×XD as):=
 match sN h as args with
 |none=>none
 |some (args,u)=>match kR (qL h u) as args with
  |none=>none
  |some (cs,bs)=>match qf (qL h u) (as.flatMap AX.cells) cs with
   |none=>none
   |some d=>
    let rows:=jR (as.flatMap AX.cells) cs;let aq:=vU bs++rows
    bif xx h nm n&&Nat.ble n 100&&Nat.ble bs.length wW&&tP aq&&X8 aq (Ku (as.flatMap AX.cells) cs)&&X8 aq (PJ bs)&&sM ((as.flatMap AX.cells).map XC.lnk) (bs.map (·.2)) cs then
     some (u,vU bs,rows,d)
    else none
def Kz (u:vL)(io rows:List Nat)(rs:RS)(os:List (List RC))(ns nm:Nat)(d:RL (rs.cells++os.flatten)):zZ×vL:=
 let r:=X7 nm rs os (io++mr (nm+(rs.cells++os.flatten).length) ns) d
 (r.1,u++(qg rows++r.2))
def sQ as (rs:RS)(os:List (List RC))(ns:Nat){X}(S:XD as→Option X)(pack:X→RL (rs.cells++os.flatten))(nm:Nat)(args:List zZ)(h:Hp):yX:=
 match BR as nm ((rs.cells++os.flatten).length+ns) args h with
 |none=>.stuck
 |some (u,io,rows,d)=>.call X (S d) fun r=>Kz u io rows rs os ns nm (pack r)
def uz as (rs:RS)(os:List (List RC))(ns:Nat)(dw:RS)(dy:List (List RC))(fz:Nat){X Y}(S:XD as→Option (X⊕Y))(pk:X→RL (rs.cells++os.flatten))(iZ:Y→RL (dw.cells++dy.flatten))(nm:Nat)(args:List zZ)(h:Hp):yX:=
 match BR as nm (((rs.cells++os.flatten).length+ns)+((dw.cells++dy.flatten).length+fz)) args h with
 |none=>.stuck
 |some (u,io,rows,d)=>.call2 X Y (S d) (fun r=>Kz u io rows rs os ns nm (pk r)) (fun r=>Kz u io rows dw dy fz nm (iZ r))
def lJ (M:zN)(aq:List Nat)(b:Nat):Prop:=∃id∈aq,∃C,M.κ id=some C∧b∈C.fp
structure sR (M:zN) (aq:List Nat) (Ml:zN):Prop where
 H:Ml.H=M.H
 F:Ml.F=fun b=>b<M.H.size∧¬lJ M aq b
 G:Ml.G=M.G
def oc (M:zN)(aq:List Nat):Prop:=∀id∈aq,∃o,M.h id=some o∧o.owned=true
theorem lJ.own {M aq}(ho:oc M aq){b}(h:lJ M aq b):qU M b:=by
 obtain⟨id,an,C,hC,hb⟩:=h;obtain⟨o,h1,h2⟩:=ho id an;exact⟨id,o,C,h1,h2,hC,hb⟩
theorem uA {M}(ok:Ok M){aq}(ho:oc M aq){b}(h:M.F b):b<M.H.size∧¬lJ M aq b:=⟨ok.Flt b h,fun hh=>(ok.own b (hh.own ho)).1 h⟩
theorem yQ3 {M M'}(ok:Ok M){aq}(ho:oc M aq){id o}(hn:id∉aq)(hh:M'.h=yP M.h id o)(hκ:M'.κ=M.κ)(hH:M'.H=M.H)(gV:Ok M'){b}(h:M'.G b):b<M.H.size∧¬lJ M aq b:=by
 have hf:=gV.GF b h;refine⟨by have:=gV.Flt b hf;simp_all,fun hd=>?_⟩;obtain⟨jd,hj,C,hC,hb⟩:=hd;obtain⟨q,h1,h2⟩:=ho jd hj;refine(gV.own b ⟨jd,q,C,?_,h2,?_,hb⟩).1 hf
 ·rw[hh,yZ _ _ (by grind)];exact h1
 simp_all
theorem X9 {M}(ok:Ok M){aq}(ho:oc M aq){c v t xs}(hn:∀id∈vO c,id∉aq)(hv:qA M c v)(h:kE M.h c=some ⟨t,xs⟩):
  qH M.H (fun b=>b<M.H.size∧¬lJ M aq b) (.sl t) xs (fun _=>some v):=by
 unfold kE at h;split at h
 ·rename_i sh s ys;cases h;cases sh with
  |true=>exact vF (fun b hb=>uA ok ho (ok.GF b hb)) (by simp) _ _ _ _ (fun _ _=>rfl) hv
  |false=>exact vF (fun b hb=>uA ok ho hb) (by simp) _ _ _ _ (fun _ _=>rfl) hv
 ·rename_i id r;have pR:id∉aq:=hn id (by simp[vO]);split at h
  ·rename_i own s ys an;cases h;cases own with
   |false=>
    obtain⟨C,hC,hO⟩:=ok.obj _ _ an;exact vF (fun b hb=>uA ok ho (ok.GF b hb)) (by simp) _ _ _ _ (by simp) (Bf hC hO hv)
   |true=>
    obtain⟨M',h1,h2,h3,h4,h5⟩:=vD4 ok an;obtain⟨C,hC,hO⟩:=h3.obj id _ (by rw[h2];exact yW _ _ _);have:=Bf hC hO (hv.ext h4.ext);exact vF (fun b hb=>yQ3 ok ho pR h2 h5 h1 h3 hb) (by grind) _ _ _ _ (by simp) this
  ·rename_i ver ys an;cases r with
   |some p=>cases h
   |none=>
    cases h;obtain⟨M',h1,h2,h3,h4,h5⟩:=vIt ok an;obtain⟨C,hC,hO⟩:=h3.obj id _ (by rw[h2];exact yW _ _ _);have:=Bf (r:=none) hC hO (hv.ext h4.ext);exact vF (fun b hb=>yQ3 ok ho pR h2 h5 h1 h3 hb) (by grind) _ _ _ _ (by simp) this
  ·cases h
 ·rename_i id i ver;have pR:id∉aq:=hn id (by simp[vO]);split at h
  ·rename_i v' ys an;cases fU:Nat.beq v' ver with
   |false=>rw[fU] at h;cases h
   |true=>
    rw[fU] at h;cases h;have e:v'=ver:=by simpa using fU
    subst e;obtain⟨C,hC,hO⟩:=ok.obj _ _ an;obtain⟨C',aF,bS,_,aU⟩:=hv;rw[hC] at aF;cases aF;obtain⟨rb,rl,xp,sA⟩:=aU hO.1;by_cases hi:i<ys.length
    ·obtain⟨B,pS,v2,k1,k2,k3,k4,k5,k6⟩:=D9 hO hi;rw[xp] at k3;cases k3;rw[show ys.getD i []=ys[i] by simp[List.getD,hi]];simp only[qH];cases rb with
     |none=>
      obtain⟨rfl,h0⟩:=sA;grind
     |some R=>
      obtain⟨a,c,rfl,h1,h2,h3⟩:=sA;refine⟨_,_,c,rfl,rfl,h1,?_⟩;by_cases h0:ys[i].length=0
      ·simp_all
      ·have ha:a=0:=by omega
       subst ha;have hR:R∈C.fp:=by
        simp only[qE.fp,List.mem_append,List.mem_filterMap];grind
       refine .inr ⟨R,0,rfl,⟨?_,fun hd=>?_⟩,fun j hj=>?_⟩
       ·have:=k6 R rfl 0 (by omega);unfold yY at this;grind
       ·obtain⟨jd,hj,D,hD,hb⟩:=hd;obtain⟨q,q1,q2⟩:=ho jd hj;exact ok.disj jd id q _ D C R (by grind) q1 an q2 rfl hD hC hb hR
       ·simp only[qH,Ty.size,Nat.zero_add,Nat.mul_one,Nat.add_zero];exact by grind
    ·have:C.rows[i]? =none:=List.getElem?_eq_none (by have:=hO.2.2.2.1;omega);simp_all
  ·cases h
 ·cases h
def TrX (M:zN)(aq:List Nat)(c c':qC):Prop:=∀v Ml,sR M aq Ml→qA M c v→qA Ml c' v
theorem Ya {M}(ok:Ok M){aq}(ho:oc M aq){p c d}(hn:∀id∈vO c,id∉aq)(h:ur M.h p c=some d):TrX M aq c (EC p d):=by
 intro v Ml lo hv;unfold ur at h;split at h
 ·rename_i k j n;cases e:gx j k with
  |false=>simp_all
  |true=>rw[e] at h;cases h;rw[←tL e];exact hv
 ·cases h;exact hv
 ·show qH Ml.H Ml.F _ _ _;rw[lo.H,lo.F];unfold BG at h;split at h
  ·cases h;rw[show v=.slice none 0 0 from hv];exact Kl
  ·split at h
   ·rename_i s ys hr;obtain⟨e,hx⟩:=lF h;subst e;subst hx;exact X9 ok ho hn hv hr
   ·cases h
 ·obtain⟨e,hx⟩:=lF h;subst e;subst hx;show qH Ml.H Ml.G _ _ _;rw[lo.H,lo.G];exact hv
 ·cases h;rw[show v=.slice none 0 0 from hv];exact Kl
 ·rename_i f g;cases e:Nat.beq f g with
  |false=>simp_all
  |true=>
   have:f=g:=by simp_all
   subst this;obtain⟨cv,rfl,hc⟩:=hv;refine⟨cv,rfl,?_⟩;generalize cv.toList=l at hc;cases l with
   |nil=>trivial
   |cons _ _=>exact hc.elim
 ·exact hv
 ·exact hv
 ·cases h
def sS (M:zN)(aq:List Nat)(κ:Nat→Option qE)(c c':qC):Prop:=∀v Ml,sR M aq Ml→Ml.κ=κ→qA M c v→qA Ml c' v
structure vO5 (M:zN) (id:Nat) (o:Obj) (C:qE):Prop where
 κ:M.κ id=some C
 rep:∀Ml:zN,Ml.H=M.H→Ml.G=M.G→vC Ml o {C with ver:=0}
 own:o.owned=true
 was:∃q,M.h id=some q∧q.owned=true
theorem vYn {M Ml}(hH:Ml.H=M.H){df C}(h:vC M (.imap df) C):vC Ml (.imap df) {C with ver:=0}:=by
 obtain⟨B,es,ck,h1,h2,h3,h4,h5⟩:=h;exact⟨B,es,ck,h1,h2,by simp_all,h4,h5⟩
theorem vL9 {j l ids c cs}(h:sM (some j::l) ids (c::cs)=true):∃id,c=.ptr id 0∧ids[j]? =some id∧sM l ids cs=true:=by
 cases c with
 |ptr id off=>
  cases off with
  |zero=>
   have h:((match ids[j]? with|some k=>Nat.beq id k|none=>false)&&sM l ids cs)=true:=h;rw[Bool.and_eq_true] at h;have h1:=h.1;split at h1;all_goals simp_all
  |succ _=>cases h
 |_=>cases h
theorem EM {M}(ok:Ok M){aq}(ho:oc M aq){κ}:∀{l cs d n ids},qf M.h l cs=some d→sM (l.map XC.lnk) ids cs=true→(∀id∈Ku l cs,id∉aq)→
  (jR l cs).length=(iB l d n).2.length∧(∀(i:Nat) id o,(jR l cs)[i]? =some id→(iB l d n).2[i]? =some o→∃C,vO5 M id o C)∧
   ((∀i id C,(jR l cs)[i]? =some id→M.κ id=some C→κ (n+i)=some {C with ver:=0})→(∀j id,ids[j]? =some id→κ j=M.κ id)→zO (sS M aq κ) cs (iB l d n).1)
 |[],[],_,n,_,_,_,_=>⟨rfl,nofun,fun _ _=>trivial⟩
 |x::l,c::cs,d,n,ids,h,hl,hn=>by
  unfold qf at h;split at h
  ·rename_i y ys h1 h2;cases h;cases x with
   |p p=>
    have pj:∀id∈vO c,id∉aq:=fun id an=>hn id (List.mem_append_left _ an)
    obtain⟨k1,k2,k3⟩:=EM ok ho (κ:=κ) (n:=n) (ids:=ids) h2 hl (fun id an=>hn id (List.mem_append_right _ an));exact⟨k1,k2,fun hκ hj=>⟨fun v Ml lo _ hv=>Ya ok ho pj h1 v Ml lo hv,k3 hκ hj⟩⟩
   |own t=>
    cases c with
    |osl id r=>
     cases r with
     |some _=>cases h1
     |none=>
      have h1:(match M.h id with|some (.arr true s xs)=>iu s t xs|_=>none)=some y:=h1;split at h1
      ·rename_i s xs an;obtain⟨e,hx⟩:=lF h1;subst e;subst hx;obtain⟨C,hC,hO⟩:=ok.obj id _ an;obtain⟨k1,k2,k3⟩:=EM ok ho (κ:=κ) (n:=n+1) (ids:=ids) h2 hl hn;refine⟨by simp only[jR,iB,List.length_cons,k1],fun i jd o hi lZ=>?_,fun hκ hj=>⟨fun v Ml lo hk hv=>?_,k3 (fun i jd D hi hD=>?_) hj⟩⟩
       ·cases i with
        |zero=>
         cases hi;cases lZ;refine⟨C,hC,fun Ml e1 e2=>?_,rfl,_,an,rfl⟩;obtain⟨q1,q2,q3,q4⟩:=hO;refine⟨q1,q2,q3,?_⟩;rw[e1,e2];exact q4
        |succ i=>exact k2 i jd o hi lZ
       ·obtain⟨D,hD,hS⟩:=hv;rw[hC] at hD;cases hD;refine⟨{C with ver:=0},by rw[hk];exact hκ 0 id C rfl hC,?_⟩;rw[lo.H];exact hS
       ·have:=hκ (i+1) jd D hi hD;rw[←this];congr 1;omega
      ·cases h1
    |_=>cases h1
   |mat=>
    cases c with
    |osl id r=>
     cases r with
     |some _=>cases h1
     |none=>
      have h1:(match M.h id with|some (.mat _ xs)=>some xs|_=>none)=some y:=h1;split at h1
      ·rename_i ver xs an;cases h1;obtain⟨C,hC,hO⟩:=ok.obj id _ an;obtain⟨k1,k2,k3⟩:=EM ok ho (κ:=κ) (n:=n+1) (ids:=ids) h2 hl hn;refine⟨by simp only[jR,iB,List.length_cons,k1],fun i jd o hi lZ=>?_,fun hκ hj=>⟨fun v Ml lo hk hv=>?_,k3 (fun i jd D hi hD=>?_) hj⟩⟩
       ·cases i with
        |zero=>
         cases hi;cases lZ;refine⟨C,hC,fun Ml e1 e2=>?_,rfl,_,an,rfl⟩;obtain⟨q1,q2⟩:=hO;refine⟨rfl,?_⟩;rw[e1];exact q2
        |succ i=>exact k2 i jd o hi lZ
       ·obtain⟨D,hD,hS⟩:=hv;rw[hC] at hD;cases hD;refine⟨{C with ver:=0},by rw[hk];exact hκ 0 id C rfl hC,?_⟩;show jJ Ml.H {C with ver:=0} 0 C.len v;rw[lo.H];exact hS
       ·have:=hκ (i+1) jd D hi hD;rw[←this];congr 1;omega
      ·cases h1
    |_=>cases h1
   |map=>
    cases c with
    |map id=>
     have h1:(match M.h id with|some (.imap df)=>some df|_=>none)=some y:=h1;split at h1
     ·rename_i df an;cases h1;obtain⟨C,hC,hO⟩:=ok.obj id _ an;obtain⟨k1,k2,k3⟩:=EM ok ho (κ:=κ) (n:=n+1) (ids:=ids) h2 hl hn;refine⟨by simp only[jR,iB,List.length_cons,k1],fun i jd o hi lZ=>?_,fun hκ hj=>⟨fun v Ml lo hk hv=>?_,k3 (fun i jd D hi hD=>?_) hj⟩⟩
      ·cases i with
       |zero=>
        cases hi;cases lZ;exact⟨C,hC,fun Ml e1 e2=>vYn e1 hO,rfl,_,an,rfl⟩
       |succ i=>exact k2 i jd o hi lZ
      ·obtain⟨D,B,hD,hB,e⟩:=hv;rw[hC] at hD;cases hD;exact⟨{C with ver:=0},B,by rw[hk];exact hκ 0 id C rfl hC,hB,e⟩
      ·have:=hκ (i+1) jd D hi hD;rw[←this];congr 1;omega
     ·cases h1
    |_=>cases h1
   |link j=>
    obtain⟨id,rfl,an,dL⟩:=vL9 hl;obtain⟨k1,k2,k3⟩:=EM ok ho (κ:=κ) (n:=n) (ids:=ids) h2 dL hn;refine⟨k1,k2,fun hκ hj=>⟨fun v Ml lo hk hv=>?_,k3 hκ hj⟩⟩;obtain⟨C,B,hC,hB,e⟩:=hv;exact⟨C,B,by rw[hk,hj j id an];exact hC,hB,e⟩
  ·cases h
 |[],_::_,_,_,_,h,_,_=>by cases h
 |_::_,[],_,_,_,h,_,_=>by cases h
theorem KA {M Ml aq}(lo:sR M aq Ml):∀{cs aT vs},zO (sS M aq Ml.κ) cs aT→zO (qA M) cs vs→zO (qA Ml) aT vs
 |[],[],[],_,_=>trivial
 |_::_,_::_,_::_,h,k=>⟨h.1 _ _ lo rfl k.1,KA lo h.2 k.2⟩
def EN (aq:List Nat)(bs:List (Bool×Nat)):Prop:=∀b∈bs,(b.1=true→b.2∈aq)∧(b.1=false→b.2∉aq)
theorem vXd {M}(ok:Ok M){aq}(ho:oc M aq){io id cells}(h:EJ M.h io id=some cells)(hm:(io=true→id∈aq)∧(io=false→id∉aq)):
  ∃C B,M.κ id=some C∧C.blk=some B∧∀Ml bF,sR M aq Ml→zO (sS M aq Ml.κ) cells bF→vC Ml (bif io then .box true bF else .robox bF) C:=by
 unfold EJ at h;split at h
 ·rename_i cs an;cases h;obtain⟨C,hC,B,vals,e,h1,h2,h3,h4,h5⟩:=ok.obj id _ an;exact⟨C,B,hC,h1,fun Ml bF lo ht=>⟨B,vals,e,h1,h2,by rw[lo.H];exact h3,KA lo ht h4,by simp⟩⟩
 ·rename_i own cs an;cases h;obtain⟨C,hC,B,vals,e,h1,h2,h3,h4,h5⟩:=ok.obj id _ an;refine⟨C,B,hC,h1,fun Ml bF lo ht=>⟨B,vals,e,h1,h2,by rw[lo.H];exact h3,KA lo ht h4,?_⟩⟩;rw[lo.F];cases own with
  |false=>exact uA ok ho (ok.GF B (h5 rfl))
  |true=>
   refine⟨by grind,fun hd=>?_⟩;obtain⟨jd,hj,D,hD,hb⟩:=hd;obtain⟨q,q1,q2⟩:=ho jd hj;exact ok.disj jd id q _ D C B (by grind) q1 an q2 rfl hD hC hb (by simp[qE.fp,h1])
 ·rename_i cs an;cases h;obtain⟨C,hC,B,vals,e,h1,h2,h3,h4,h5⟩:=ok.obj id _ an;refine⟨C,B,hC,h1,fun Ml bF lo ht=>⟨B,vals,e,h1,h2,by rw[lo.H];exact h3,KA lo ht h4,?_⟩⟩;rw[lo.F];exact uA ok ho h5
 ·cases h
def Yb (M:zN)(aq:List Nat)(bs:List (Bool×Nat))(mk:List qC→List Obj)(cs:List qC):Prop:=∀(Ml:zN) (aT:List qC),sR M aq Ml→zO (sS M aq Ml.κ) cs aT→
 zO (fun(b:Bool×Nat) o=>∃C B,M.κ b.2=some C∧C.blk=some B∧vC Ml o C∧o.owned=b.1) bs (mk aT)
theorem PK {M}(ok:Ok M){aq}(ho:oc M aq):∀{ls ids cs bs},ki M.h ls ids=some (cs,bs)→EN aq bs→
  cs.length=(ls.flatMap (·.2)).length∧bs=(ls.map (·.1)).zip ids∧ids.length=ls.length∧Yb M aq bs (Kv ls) cs
 |[],[],cs,bs,h,_=>by cases h;exact⟨rfl,rfl,rfl,fun _ _ _ _=>trivial⟩
 |(io,l)::ls,id::ids,cs,bs,h,hf=>by
  unfold ki at h;split at h
  ·rename_i cells rest BP h1 h2;obtain⟨hl,h⟩:=wQ h;cases h;have hl:cells.length=l.length:=Nat.eq_of_beq_eq_true hl;obtain⟨C,B,hC,hB,hO⟩:=vXd ok ho h1 (hf _ (List.mem_cons_self ..));obtain⟨k1,k2,k3,k4⟩:=PK ok ho h2 fun b hb=>hf b (by grind)
   refine⟨by simp_all,by simp_all,by simp[k3],fun Ml aT lo ht=>?_⟩;have pf:=zO.take l.length ht;have nX:=zO.drop l.length ht;rw[←hl,List.drop_left] at nX;refine⟨⟨C,B,hC,hB,?_,?_⟩,?_⟩
   ·simp_all
   ·cases io<;>rfl
   ·rw[←hl];exact k4 Ml _ lo nX
  ·cases h
theorem KB {h}:∀{ls ids cs bs},ki h ls ids=some (cs,bs)→bs.length=ls.length
 |[],[],_,_,e=>by cases e;rfl
 |(io,l)::ls,id::ids,cs,bs,e=>by
  unfold ki at e;split at e
  ·rename_i cells rest BP h1 h2;obtain⟨_,e⟩:=wQ e;cases e;simp[KB h2]
  ·cases e
theorem vY7 {h}{s:AX}{a cs bs}(e:s.get h a=some (cs,bs)):bs.length=s.nb:=by
 unfold AX.get at e;split at e
 ·cases e;rfl
 ·obtain⟨_,e⟩:=wQ e;cases e;rfl
 ·rw[KB e];rfl
 ·obtain⟨_,e⟩:=wQ e;rw[KB e];rfl
 ·split at e
  ·rw[KB e];simp[EI,AX.nb]
  ·cases e
 ·cases e
theorem Yc {h}:∀{n id ids},Ks h n id=some ids→ids.head? =some id∧ids.length=n
 |1,_,_,e=>by cases e;simp
 |n+2,id,ids,e=>by
  unfold Ks at e;split at e
  ·split at e
   ·split at e
    ·rename_i l hl;cases e;exact⟨rfl,by simp[(Yc hl).2]⟩
    ·cases e
   ·cases e
  ·cases e
theorem vP5 {M}(ok:Ok M){aq}(ho:oc M aq){s:AX}{a v cs bs}(hv:zX M a v)(h:s.get M.h a=some (cs,bs))(hf:EN aq bs):
  cs.length=s.cells.length∧Yb M aq bs (fun aT=>s.boxes aT) cs∧∀Ml aT n,sR M aq Ml→zO (sS M aq Ml.κ) cs aT→(∀i b,bs[i]? =some b→Ml.κ (n+i)=M.κ b.2)→zX Ml (s.mk n aT) v:=by
 unfold AX.get at h;split at h
 ·cases h;refine⟨rfl,fun Ml aT lo ht=>trivial,fun Ml aT n lo ht _=>?_⟩
  match aT,ht with
  |[c'],ht=>exact ht.1 v Ml lo rfl hv
 ·rename_i l xs;obtain⟨hl,h'⟩:=wQ h;cases h';have hl:cs.length=l.length:=Nat.eq_of_beq_eq_true hl;obtain⟨vs,rfl,hx⟩:=hv;exact⟨by simp[AX.cells,hl],fun Ml aT lo ht=>trivial,fun Ml aT n lo ht _=>⟨vs,rfl,KA lo ht hx⟩⟩
 ·rename_i io l id;obtain⟨k1,k2,k3,k4⟩:=PK ok ho h hf;refine⟨by rw[k1];simp[AX.cells],k4,fun Ml aT n lo ht hκ=>?_⟩;obtain⟨C,B,hC,hB,e⟩:=hv;exact⟨C,B,by have:=hκ 0 (io,id) (by rw[k2];rfl);simp_all,hB,e⟩
 ·rename_i f bA g ids;obtain⟨hg,h'⟩:=wQ h;have Xo:f=g:=Nat.eq_of_beq_eq_true hg;subst Xo;obtain⟨k1,k2,k3,k4⟩:=PK ok ho h' hf;refine⟨by rw[k1];rfl,k4,fun Ml aT n lo ht hκ=>?_⟩;obtain⟨cv,rfl,hc⟩:=hv;refine⟨cv,rfl,?_⟩;have l2:=hc.length;refine zO.of_get (by simp_all) fun i h1 h2=>?_
  have hi:i<ids.length:=by omega
  obtain⟨C,B,q1,q2,q3⟩:=hc.get i hi h2;have hb:bs[i]? =some ((bA.map (·.1))[i]'(by simp at h1⊢;omega),ids[i]):=by
   grind
  grind
 ·rename_i ls id;split at h
  ·rename_i ids kK;obtain⟨k1,k2,k3,k4⟩:=PK ok ho h hf;refine⟨by rw[k1];simp[AX.cells,EI,List.flatMap_map],k4,fun Ml aT n lo ht hκ=>?_⟩;obtain⟨C,B,hC,hB,e⟩:=hv;have hb:bs[0]? =some (true,id):=by
    obtain⟨h1,h2⟩:=Yc kK;rw[k2];cases ids with
    |nil=>cases h1
    |cons i ids=>
     cases h1;cases ls with
     |nil=>cases k3
     |cons l ls=>rfl
   exact⟨C,B,by grind,hB,e⟩
  ·cases h
 ·cases h
theorem vFt {M}(ok:Ok M){aq}(ho:oc M aq):∀{l as vs cs bs},zO (zX M) as vs→kR M.h l as=some (cs,bs)→EN aq bs→
  cs.length=(l.flatMap AX.cells).length∧(∀n,Yb M aq bs (fun aT=>(BQ l aT n).2) cs)∧
   ∀Ml aT n,sR M aq Ml→zO (sS M aq Ml.κ) cs aT→(∀i b,bs[i]? =some b→Ml.κ (n+i)=M.κ b.2)→zO (zX Ml) (BQ l aT n).1 vs
 |[],[],[],cs,bs,_,h,_=>by cases h;exact⟨rfl,fun _ _ _ _ _=>trivial,fun _ _ _ _ _ _=>trivial⟩
 |s::l,a::as,v::vs,cs,bs,hv,h,hf=>by
  unfold kR at h;split at h
  ·rename_i nh bs1 cs2 bs2 h1 h2;cases h;have hf1:EN aq bs1:=fun b hb=>hf b (by grind)
   have hf2:EN aq bs2:=fun b hb=>hf b (by grind)
   obtain⟨k1,k2,k3⟩:=vP5 ok ho hv.1 h1 hf1;obtain⟨k4,k5,k6⟩:=vFt ok ho hv.2 h2 hf2;have cut:∀{κ:Nat→Option qE} {aT:List qC},zO (sS M aq κ) (nh++cs2) aT→zO (sS M aq κ) nh (aT.take s.cells.length)∧zO (sS M aq κ) cs2 (aT.drop s.cells.length):=by
    intro κ aT ht;have pf:=zO.take s.cells.length ht;have nX:=zO.drop s.cells.length ht;simp_all
   refine⟨by simp_all,fun n Ml aT lo ht=>?_,fun Ml aT n lo ht hκ=>?_⟩
   ·obtain⟨pf,nX⟩:=cut ht;exact(k2 Ml _ lo pf).append (k5 _ Ml _ lo nX)
   ·obtain⟨pf,nX⟩:=cut ht;have hlen:=(k2 Ml _ lo pf).length;refine⟨k3 Ml _ n lo pf fun i b hb=>hκ i b ?_,k6 Ml _ _ lo nX fun i b hb=>?_⟩
    ·grind
    ·have:=hκ (bs1.length+i) b (by grind);grind
  ·cases h
def κX (M : zN) (bs : List (Bool × Nat)) (rows : List Nat) : Nat → Option qE := fun n => bif Nat.ble wW n then (match rows[n-wW]? with
  |some id=>(M.κ id).map fun C=>{C with ver:=0}
  |none=>none)
 else (match bs[n]? with
  |some b=>M.κ b.2
  |none=>none)
theorem BS:∀{bs} {i id:Nat},bs[i]? =some (true,id)→id∈vU bs
 |(true,a)::bs,0,id,h=>by cases h;exact List.mem_cons_self ..
 |(true,a)::bs,i+1,id,h=>List.mem_cons_of_mem _ (BS (bs:=bs) (i:=i) h)
 |(false,a)::bs,i+1,id,h=>BS (bs:=bs) (i:=i) h
theorem Yd:∀{bs} {i j id:Nat},(vU bs).Nodup→bs[i]? =some (true,id)→bs[j]? =some (true,id)→i=j
 |(true,a)::bs,0,0,id,_,_,_=>rfl
 |(true,a)::bs,0,j+1,id,hn,h,k=>by
  cases h;exact absurd (BS (bs:=bs) (i:=j) k) (List.nodup_cons.1 hn).1
 |(true,a)::bs,i+1,0,id,hn,h,k=>by
  cases k;exact absurd (BS (bs:=bs) (i:=i) h) (List.nodup_cons.1 hn).1
 |(true,a)::bs,i+1,j+1,id,hn,h,k=>by rw[Yd (bs:=bs) (List.nodup_cons.1 hn).2 h k]
 |(false,a)::bs,i+1,j+1,id,hn,h,k=>by rw[Yd (bs:=bs) hn h k]
theorem Ye {M}(ok:Ok M){l as vs cs bs}{d:XD l}(hv:zO (zX M) as vs)(hg:kR M.h l as=some (cs,bs))(hd:qf M.h (l.flatMap AX.cells) cs=some d)
  (dJ:(vU bs++jR (l.flatMap AX.cells) cs).Nodup) (sD:∀id∈Ku (l.flatMap AX.cells) cs,id∉vU bs++jR (l.flatMap AX.cells) cs) (hro:∀id∈PJ bs,id∉vU bs++jR (l.flatMap AX.cells) cs) (hlen:bs.length≤wW) (uB:sM ((l.flatMap AX.cells).map XC.lnk) (bs.map (·.2)) cs=true) (ho:oc M (vU bs++jR (l.flatMap AX.cells) cs)):
  ∃Ml:zN,sR M (vU bs++jR (l.flatMap AX.cells) cs) Ml∧Ml.h=(kS l d).2∧Ok Ml∧(∀b,qU Ml b→lJ M (vU bs++jR (l.flatMap AX.cells) cs) b)∧zO (zX Ml) (kS l d).1 vs∧Ml.κ=κX M bs (jR (l.flatMap AX.cells) cs):=by
 generalize iC:vU bs++jR (l.flatMap AX.cells) cs=aq at*
 have xJ:EN aq bs:=by
  intro b hb;obtain⟨i,hi,rfl⟩:=List.getElem_of_mem hb;have JC:bs[i]? =some bs[i]:=List.getElem?_eq_getElem hi;refine⟨fun e=>?_,fun e=>?_⟩
  ·rw[←iC];have:bs[i]? =some (true,bs[i].2):=by rw[JC,←e]
   exact List.mem_append_left _ (BS this)
  ·apply hro;clear hg hd dJ sD hro hlen ho iC hv uB
   induction bs generalizing i with
   |nil=>exact absurd hi (Nat.not_lt_zero i)
   |cons c bs ih=>
    obtain⟨io,a⟩:=c;cases i with
    |zero=>cases io<;>first|exact List.mem_cons_self .. |cases e
    |succ i=>cases io<;>first|exact List.mem_cons_of_mem _ (by grind)|exact ih i (by simpa using hi) (List.getElem_mem _) (List.getElem?_eq_getElem _) e
 let κ:=κX M bs (jR (l.flatMap AX.cells) cs);obtain⟨k1,k2,k3⟩:=EM ok ho (κ:=κ) (n:=wW) (ids:=bs.map (·.2)) hd uB sD;have ht : zO (sS M aq κ) cs (iB (l.flatMap AX.cells) d wW).1 := k3 (fun i id C hi hC=>by
  show κX M bs _ (wW+i)=_;unfold κX;rw[Nat.ble_eq_true_of_le (Nat.le_add_right _ _),show wW+i-wW=i by omega,hi];simp[hC]) fun j id hj=>by
  rw[List.getElem?_map] at hj;obtain⟨b,hb,rfl⟩:=Option.map_eq_some_iff.1 hj;have hi:j<bs.length:=by grind
  show κX M bs _ j=_;unfold κX;have:Nat.ble wW j=false:=by
   cases h:Nat.ble wW j with
   |false=>rfl
   |true=>have:=Nat.le_of_ble_eq_true h;omega
  rw[this,hb];rfl
 obtain⟨a1,a2,a3⟩:=vFt ok ho hv hg xJ;let Ml:zN:={κ:=κ,F:=fun b=>b<M.H.size∧¬lJ M aq b,G:=M.G,h:=(kS l d).2,H:=M.H};have lo:sR M aq Ml:=⟨rfl,rfl,rfl⟩;have BU:=a2 0 Ml _ lo ht;have hκbox:∀i b,bs[i]? =some b→Ml.κ (0+i)=M.κ b.2:=fun i b hb=>by
  have hi:i<bs.length:=by grind
  show κX M bs _ (0+i)=_;unfold κX;have:Nat.ble wW (0+i)=false:=by
   cases h:Nat.ble wW (0+i) with
   |false=>rfl
   |true=>have:=Nat.le_of_ble_eq_true h;omega
  rw[this,Nat.zero_add,hb];rfl
 have mv:∀id o,Ml.h id=some o→∃jd C,Ml.κ id=some C∧vC Ml o C∧(o.owned=true→jd∈aq∧∃D,M.κ jd=some D∧D.fp=C.fp)∧
   ((Nat.ble wW id=true∧(jR (l.flatMap AX.cells) cs)[id-wW]? =some jd)∨(Nat.ble wW id=false∧∃io,bs[id]? =some (io,jd)∧o.owned=io)):=by
  intro id o h;have h:Kw (BQ l (iB (l.flatMap AX.cells) d wW).1 0).2 (iB (l.flatMap AX.cells) d wW).2 id=some o:=h;unfold Kw at h;cases hb:Nat.ble wW id with
  |true=>
   rw[hb] at h;have h:(iB (l.flatMap AX.cells) d wW).2[id-wW]? =some o:=h;have hi:=(List.getElem?_eq_some_iff.1 h).1;have hj:(jR (l.flatMap AX.cells) cs)[id-wW]? =some ((jR (l.flatMap AX.cells) cs)[id-wW]'(by omega)):=by simp
   obtain⟨C,hR⟩:=k2 _ _ _ hj h;refine⟨_,{C with ver:=0},?_,hR.rep Ml rfl rfl,fun _=>⟨?_,C,hR.κ,rfl⟩,.inl ⟨rfl,hj⟩⟩
   ·show κX M bs _ id=_;unfold κX;rw[hb,hj];simp[hR.κ]
   ·rw[←iC];exact by simp
  |false=>
   rw[hb] at h;have hi:=(List.getElem?_eq_some_iff.1 h).1;have Yf:id<bs.length:=by rw[BU.length];exact hi
   have hq:=BU.get id Yf hi;rw[List.getElem?_eq_getElem hi] at h;cases h;obtain⟨C,B,q1,q2,q3,q4⟩:=hq;have JC:bs[id]? =some bs[id]:=List.getElem?_eq_getElem Yf;refine⟨bs[id].2,C,?_,q3,fun e=>⟨(xJ _ (List.getElem_mem Yf)).1 (by rw[←q4];exact e),C,q1,rfl⟩,by grind⟩;have:=hκbox id _ JC;rw[Nat.zero_add] at this;rw[this];exact q1
 have aN:∀b,qU Ml b→lJ M aq b:=fun b ⟨id,o,C,h1,h2,h3,h4⟩=>by
  obtain⟨jd,C',q1,_,q3,_⟩:=mv id o h1;rw[h3] at q1;cases q1;obtain⟨p1,D,p2,p3⟩:=q3 h2;exact⟨jd,p1,D,p2,by rw[p3];exact h4⟩
 refine⟨Ml,lo,rfl,⟨fun id o h=>?_,fun id h=>?_,fun i j oi oj Ci Cj b mZ h1 h2 h3 h4 h5 h6 h7 h8=>?_,fun b hb=>⟨fun hf=>hf.2 (aN b hb),(ok.own b ((aN b hb).own ho)).2⟩,fun b hb=>uA ok ho (ok.GF b hb),fun b hb=>hb.1⟩,aN,a3 Ml _ 0 lo ht hκbox,rfl⟩
 ·obtain⟨jd,C,q1,q2,_⟩:=mv id o h;exact⟨C,q1,q2⟩
 ·have h:Kw (BQ l (iB (l.flatMap AX.cells) d wW).1 0).2 (iB (l.flatMap AX.cells) d wW).2 id=none:=h;unfold Kw at h;show κX M bs _ id=none;unfold κX;cases hb:Nat.ble wW id with
  |true=>
   rw[hb] at h;have h:(iB (l.flatMap AX.cells) d wW).2[id-wW]? =none:=h;rw[List.getElem?_eq_none_iff,←k1] at h;rw[List.getElem?_eq_none h];rfl
  |false=>
   rw[hb] at h;have h:(BQ l (iB (l.flatMap AX.cells) d wW).1 0).2[id]? =none:=h;rw[List.getElem?_eq_none_iff,←BU.length] at h;rw[List.getElem?_eq_none h];rfl
 ·obtain⟨ji,Ci',p1,_,p3,p4⟩:=mv i oi h1;obtain⟨jj,Cj',q1,_,q3,q4⟩:=mv j oj h2;rw[h5] at p1;cases p1;rw[h6] at q1;cases q1;obtain⟨p5,Di,p6,p7⟩:=p3 h3;obtain⟨q5,Dj,q6,q7⟩:=q3 h4;obtain⟨oi',r1,r2⟩:=ho ji p5;obtain⟨oj',r3,r4⟩:=ho jj q5;refine ok.disj ji jj oi' oj' Di Dj b (fun e=>?_) r1 r3 r2 r4 p6 q6 (by rw[p7];exact h7) (by rw[q7];exact h8);subst e;rw[←iC] at dJ;obtain⟨n1,n2,n3⟩:=List.nodup_append.1 dJ;rcases p4 with⟨p8,p9⟩|⟨p8,io,p9,uC⟩<;>rcases q4 with⟨q8,q9⟩|⟨q8,io',q9,PM⟩
  ·have:=(List.getElem?_inj (by grind) n2).1 (p9.trans q9.symm);have e1:=Nat.le_of_ble_eq_true p8;have e2:=Nat.le_of_ble_eq_true q8;exact mZ (by omega)
  ·rw[h4] at PM;subst PM;exact n3 _ (BS q9) _ (List.mem_of_getElem? p9) rfl
  ·rw[h3] at uC;subst uC;exact n3 _ (BS p9) _ (List.mem_of_getElem? q9) rfl
  ·rw[h3] at uC;rw[h4] at PM;subst uC;subst PM;exact mZ (Yd n1 p9 q9)
theorem xK {n}:∀{ids h},qL h (qg ids) n=if n∈ids then some .gone else h n
 |[],_=>by rfl
 |id::ids,h=>by
  show qL (yP h id .gone) (qg ids) n=_;rw[xK (ids:=ids)];by_cases e:n=id
  ·subst e;simp[yW]
  ·rw[yZ _ _ e];simp[e]
def zN.overX (M L:zN)(aq:List Nat):zN:={κ:=M.κ,F:=fun b=>M.F b∨L.G b,G:=L.G,h:=qL M.h (qg aq),H:=L.H}
theorem zN.overX_ok {M Ml L aq}(ok:Ok M)(iY:Ok L)(lo:sR M aq Ml)(ho:oc M aq)(hand:∀b,qU Ml b→lJ M aq b)(g:kh Ml L):
  Ok (M.overX L aq)∧yT M (M.overX L aq)∧(∀b,qU (M.overX L aq) b→qU M b∧¬lJ M aq b):=by
 have cU:∀b,b<M.H.size→¬lJ M aq b→L.H[b]? =M.H[b]? :=fun b hb hn=>by rw[g.same b (by rw[lo.F];simp_all),lo.H]
 have dH:M.H.size≤L.H.size:=by have:=g.size;rw[lo.H] at this;exact this
 have hG:∀b,L.G b→b<M.H.size→M.G b∨lJ M aq b:=fun b hb hs=>by
  rcases g.Gb b hb (by rw[lo.H];exact hs) with h|h
  ·rw[lo.G] at h;simp_all
  simp_all
 have hsF:∀b,M.F b→L.H[b]? =M.H[b]? :=fun b h=>cU b (uA ok ho h).1 (uA ok ho h).2
 have x:yV M (M.overX L aq):=⟨fun id C h=>⟨C,h,C.le_refl⟩,fun b h=>.inl h,fun b h=>g.G b (by rw[lo.G];exact h),fun b h=>hsF b h,fun b h=>hsF b (ok.GF b h),fun b h=>by
  have:=g.bsz b (by rw[lo.H];exact h);rw[lo.H] at this;exact this⟩
 have mv:∀id o,(M.overX L aq).h id=some o→o.owned=true→id∉aq∧M.h id=some o:=fun id o h iX=>by
  have h:qL M.h (qg aq) id=some o:=h;rw[xK] at h;by_cases hm:id∈aq
  ·rw[if_pos hm] at h;cases h;cases iX
  simp_all
 have Yg:∀id o C,id∉aq→M.h id=some o→o.owned=true→M.κ id=some C→∀b∈C.fp,¬lJ M aq b:=fun id o C hm h iX hC b hb ⟨jd,hj,D,hD,Xx⟩=>by
  obtain⟨q,q1,q2⟩:=ho jd hj;exact ok.disj id jd o q C D b (by grind) h q1 iX q2 hC hD hb Xx
 have aN:∀b,qU (M.overX L aq) b→qU M b∧¬lJ M aq b:=fun b ⟨id,o,C,h1,h2,h3,h4⟩=>by
  obtain⟨k1,k2⟩:=mv id o h1 h2;exact⟨⟨id,o,C,k2,h2,h3,h4⟩,Yg id o C k1 k2 h2 h3 b h4⟩
 refine⟨⟨fun id o h=>?_,fun id h=>?_,fun i j oi oj Ci Cj b mZ h1 h2 h3 h4 h5 h6 h7 h8=>?_,fun b h=>⟨fun hf=>?_,?_⟩,fun b h=>.inr h,fun b h=>?_⟩,⟨x,dH,fun b hb hn=>cU b hb fun hh=>hn (hh.own ho),by grind,fun b h hs=>?_,fun b h hs=>?_⟩,aN⟩
 ·have h:qL M.h (qg aq) id=some o:=h;rw[xK] at h;by_cases hm:id∈aq
  ·rw[if_pos hm] at h;cases h;obtain⟨q,q1,q2⟩:=ho id hm;obtain⟨C,hC,_⟩:=ok.obj id q q1;exact⟨C,hC,trivial⟩
  ·rw[if_neg hm] at h;obtain⟨C,hC,hO⟩:=ok.obj id o h;exact⟨C,hC,hO.ext x fun iX b hb=>cU b (ok.own b ⟨id,o,C,h,iX,hC,hb⟩).2 (by grind)⟩
 ·have h:qL M.h (qg aq) id=none:=h;rw[xK] at h;by_cases hm:id∈aq
  ·simp_all
  ·rw[if_neg hm] at h;exact ok.non id h
 ·exact ok.disj i j oi oj Ci Cj b mZ (mv i oi h1 h3).2 (by grind) h3 h4 h5 h6 h7 h8
 ·obtain⟨k1,k2⟩:=aN b h;have:=ok.own b k1;rcases hf with hf|hf
  ·simp_all
  ·rcases hG b hf this.2 with h|h
   ·exact this.1 (ok.GF b h)
   simp_all
 ·have h1:=(ok.own b (aN b h).1).2;show b<L.H.size;omega
 ·show b<L.H.size;rcases h with h|h
  ·have:=ok.Flt b h;omega
  ·exact iY.Flt b (iY.GF b h)
 ·rcases hG b h hs with h|h
  ·simp_all
  ·exact .inr (h.own ho)
 ·rcases h with h|h
  ·simp_all
  ·rcases hG b h hs with h|h
   ·exact .inl (ok.GF b h)
   ·exact .inr (h.own ho)
def qE.bare (C:qE):qE:={C with ver:=C.ver+1,rows:=[]}
def zN.revive (M:zN)(id:Nat)(C:qE)(cs:List qC):zN:={M with κ:=κset M.κ id C.bare,h:=yP M.h id (.box true cs)}
theorem zN.revive_ok {M}(ok:Ok M){id C B vals e cs}(hC:M.κ id=some C)(hB:C.blk=some B)(hH:M.H[B]? =some (.cells vals e (0,0)))(hc:zO (qA M) cs vals.toList)
  (h1:¬qU M B) (h2:¬M.F B):Ok (M.revive id C cs)∧yV M (M.revive id C cs)∧(∀b,qU (M.revive id C cs) b→qU M b∨b=B):=by
 have hκ:(M.revive id C cs).κ id=some C.bare:=κset_same _ _ _;have x:yV M (M.revive id C cs):=⟨fun jd D h=>by
  by_cases e':jd=id
  ·subst e';rw[hC] at h;cases h;exact⟨_,hκ,rfl,rfl,rfl,Nat.le_succ _,fun h=>absurd h (by simp[qE.bare])⟩
  ·exact⟨D,by show κset M.κ id _ jd=_;rw[κset_ne _ _ e'];exact h,D.le_refl⟩,fun _ h=>h,fun _ h=>h,fun _ _=>rfl,fun _ _=>rfl,fun _ _=>rfl⟩
 have sg:C.bare.fp=[B]:=by simp[qE.fp,qE.bare,hB]
 have Bw:(M.revive id C cs).h id=some (.box true cs):=yW _ _ _;refine⟨Ok.build ok x (fun jd=>jd=id) (fun jd h=>yZ _ _ h) (fun jd h=>κset_ne _ _ h) (fun _ _ _ _ _ _ _ _ _=>rfl) (fun jd o' D k1 k2 k3 k4 b bg=>(ok.own b ⟨jd,o',D,k2,k3,k4,bg⟩).1) (Nat.le_refl _)
  (fun jd o' e' h=>?_) (fun jd e' h=>?_) (fun jd o' D b e' k1 k2 k3 k4=>?_) ok.GF ok.Flt,x,fun b bg=>?_⟩
 ·subst e';rw[Bw] at h;cases h;exact⟨_,hκ,B,vals,e,hB,rfl,hH,hc.mono fun _ _ h=>h.ext x,by simp⟩
 ·simp_all
 ·subst e';rw[hκ] at k3;cases k3;rw[sg,List.mem_singleton] at k4;subst k4;refine⟨fun j oj Cj hj q1 q2 q3 q4=>h1 ⟨j,oj,Cj,?_,q2,?_,q4⟩,h2,(Array.getElem?_eq_some_iff.1 hH).1⟩
  ·rw[←q1];exact(yZ _ _ hj).symm
  ·rw[←q3];exact(κset_ne _ _ hj).symm
 ·obtain⟨jd,o',D,k1,k2,k3,k4⟩:=bg;by_cases e':jd=id
  ·simp_all
  ·exact .inl ⟨jd,o',D,by rw[←k1];exact(yZ _ _ e').symm,k2,by rw[←k3];exact(κset_ne _ _ e').symm,k4⟩
structure vC8 (M:zN) (id:Nat) (cs:List qC) (B:Nat):Prop where
 at':∃C,M.κ id=some C∧C.blk=some B
 rep:∃vals e,M.H[B]? =some (.cells vals e (0,0))∧zO (qA M) cs vals.toList
 own:¬qU M B
 F:¬M.F B
def pn (R:Nat→List qC→Nat→Prop):List Nat→List (List qC)→List Nat→Prop
 |[],[],[]=>True
 |a::l,b::m,c::n=>R a b c∧pn R l m n
 |_,_,_=>False
theorem pn.mono {R S}:∀{l m n},(∀a b c,c∈n→R a b c→S a b c)→pn R l m n→pn S l m n
 |[],[],[],_,_=>trivial
 |_::_,_::_,_::_,h,k=>⟨h _ _ _ (by simp) k.1,pn.mono (by grind) k.2⟩
theorem yU3:∀{ids css Bs M},Ok M→pn (vC8 M) ids css Bs→Bs.Nodup→
  ∃M':zN,M'.H=M.H∧M'.G=M.G∧M'.F=M.F∧M'.h=qL M.h (EL ids css)∧Ok M'∧yV M M'∧(∀b,qU M' b→qU M b∨b∈Bs)
 |[],[],[],M,ok,_,_=>⟨M,rfl,rfl,rfl,rfl,ok,.refl M,by simp⟩
 |id::ids,cs::css,B::Bs,M,ok,h,hn=>by
  obtain⟨C,hC,hB⟩:=h.1.at';obtain⟨vals,e,hH,hc⟩:=h.1.rep;obtain⟨k1,k2,k3⟩:=zN.revive_ok ok hC hB hH hc h.1.own h.1.F;obtain⟨n1,n2⟩:=List.nodup_cons.1 hn;obtain ⟨M', a1, a2, a3, a4, a5, a6, a7⟩ := yU3 (M := M.revive id C cs) k1 (pn.mono (fun a b c hcB hb=>by
   refine⟨?_,?_,fun ho=>?_,hb.F⟩
   ·obtain⟨D,q1,q2⟩:=hb.at';obtain⟨D',q3,le⟩:=k2.κ _ _ q1;exact⟨D',q3,le.blk.trans q2⟩
   ·obtain⟨vals,e,q1,q2⟩:=hb.rep;exact⟨vals,e,q1,q2.mono fun _ _ h=>h.ext k2⟩
   ·rcases k3 _ ho with h|h
    ·exact hb.own h
    simp_all) h.2) n2
  exact⟨M',a1,a2,a3,a4,a5,yV.trans (M:=M) (M':=M.revive id C cs) (Nat.le_refl _) k2 a6,by grind⟩
theorem vLj:∀{ids css h h'},ids.length=css.length→(∀n,n∉ids→h n=h' n)→qL h (EL ids css)=qL h' (EL ids css)
 |[],[],h,h',_,e=>funext fun n=>e n (by simp)
 |id::ids,cs::css,h,h',hl,e=>vLj (ids:=ids) (css:=css) (by simp_all) fun n hn=>by
   by_cases k:n=id
   ·subst k;rw[yW,yW]
   ·rw[yZ _ _ k,yZ _ _ k];simp_all
theorem vVi {h0 s a a' v u M}(ok:Ok M)(hf:jL h0 M.h)(hv:zX M a v)(h:xI h0 s a=some (a',u)):
  ∃L:zN,L.H=M.H∧L.h=qL M.h u∧Ok L∧yT M L∧zX L a' v∧jL h0 L.h:=by
 unfold xI at h;split at h
 ·rename_i p x;split at h
  ·rename_i y u1 e;cases h;obtain⟨L,h1,h2,h3,h4,h5,h6⟩:=xA (cs:=[x]) (vs:=[v]) ok hf ⟨hv,trivial⟩ e;exact⟨L,h1,h2,h3,h4,h5.1,h6⟩
  ·cases h
 ·split at h
  ·rename_i ys u1 e;cases h;obtain⟨vs,rfl,hx⟩:=hv;obtain⟨L,h1,h2,h3,h4,h5,h6⟩:=xA ok hf hx e;exact⟨L,h1,h2,h3,h4,⟨vs,rfl,h5⟩,h6⟩
  ·cases h
 ·cases h;exact⟨M,rfl,rfl,ok,.refl M,hv,hf⟩
theorem yUu {h0}:∀{l as fc vs u M},Ok M→jL h0 M.h→zO (zX M) as vs→sN h0 l as=some (fc,u)→
  ∃L:zN,L.H=M.H∧L.h=qL M.h u∧Ok L∧yT M L∧zO (zX L) fc vs∧jL h0 L.h
 |s::l,a::as,fc,v::vs,u,M,ok,hf,hv,h=>by
  unfold sN at h;split at h
  ·rename_i a1 u1 XB sj e1 e2;cases h;obtain⟨M1,h1,h2,h3,h4,h5,h6⟩:=vVi ok hf hv.1 e1;obtain⟨M2,k1,k2,k3,k4,k5,k6⟩:=yUu h3 h6 (xB.ext h4.ext hv.2) e2;exact⟨M2,k1.trans h1,by rw[k2,h2,lE],k3,h4.trans k4,⟨h5.ext k4.ext,k5⟩,k6⟩
  ·cases h
 |[],as,fc,vs,u,M,ok,hf,hv,h=>by
  cases as<;>cases h<;>exact⟨M,rfl,rfl,ok,.refl M,hv,hf⟩
 |s::l,[],fc,vs,u,M,ok,hf,hv,h=>by cases h;exact⟨M,rfl,rfl,ok,.refl M,hv,hf⟩
def mw (M L:zN)(id jd:Nat):Prop:=∃C D B,M.κ id=some C∧C.blk=some B∧L.κ jd=some D∧D.blk=some B
theorem Yh {M L}:∀{ls is js out} {us:List Value} {cs bs},ki M.h ls is=some (cs,bs)→Kx ls js=some out→
  zO (fun id u=>∃C B,M.κ id=some C∧C.blk=some B∧u=.pointer (some ⟨B,0,none⟩)) is us→zO (fun id u=>∃C B,L.κ id=some C∧C.blk=some B∧u=.pointer (some ⟨B,0,none⟩)) js us→zO (mw M L) (vU bs) out
 |[],[],[],out,us,cs,bs,h,k,_,_=>by cases h;cases k;exact trivial
 |(io,l)::ls,i::is,j::js,out,u::us,cs,bs,h,k,p,q=>by
  unfold ki at h;split at h
  ·rename_i cells rest BP h1 h2;obtain⟨_,h⟩:=wQ h;cases h;unfold Kx at k;split at k
   ·rename_i o ho;cases k;have ih:=Yh h2 ho p.2 q.2;cases io with
    |false=>exact ih
    |true=>
     obtain⟨C,B,k1,k2,k3⟩:=p.1;obtain⟨D,B',k4,k5,k6⟩:=q.1;rw[k3] at k6;cases k6;exact⟨⟨C,D,B,k1,k2,k4,k5⟩,ih⟩
   ·cases k
  ·cases h
theorem yJ8 {M L}:∀{bs n},(∀q∈bs,q.1=true)→(∀i q,bs[i]? =some q→mw M L q.2 (n+i))→zO (mw M L) (vU bs) (mr n bs.length)
 |[],n,_,_=>trivial
 |(true,id)::bs,n,h,k=>⟨k 0 _ rfl,yJ8 (by grind) fun i q hq=>by
   have:=k (i+1) q hq;grind⟩
 |(false,id)::bs,n,h,k=>by simp_all
theorem vJ7 {h}:∀{ls ids cs bs},ki h ls ids=some (cs,bs)→bs.map (·.1)=ls.map (·.1)
 |[],[],_,_,e=>by cases e;rfl
 |(io,l)::ls,id::ids,cs,bs,e=>by
  unfold ki at e;split at e
  ·rename_i cells rest BP h1 h2;obtain⟨_,e⟩:=wQ e;cases e;simp[vJ7 h2]
  ·cases e
theorem Yi {M L}{s:AX}{a b v cs bs out}(h:s.get M.h a=some (cs,bs)){n}(k:s.io n b=some out)(p:zX M a v)(q:s.looks=true→zX L b v)(hk:s.isChn=true→∀i q,bs[i]? =some q→mw M L q.2 (n+i)):zO (mw M L) (vU bs) out:=by
 unfold AX.get at h;split at h
 ·cases h;cases k;exact trivial
 ·obtain⟨_,h'⟩:=wQ h;cases h';cases k;exact trivial
 ·unfold AX.io at k;split at k
  ·rename_i e;cases e
  ·rename_i e;cases e
  ·rename_i io' l' jd e;cases e;exact Yh (us:=[v]) h k ⟨p,trivial⟩ ⟨q rfl,trivial⟩
  all_goals simp_all
 ·obtain⟨hg,h'⟩:=wQ h;unfold AX.io at k;split at k
  ·simp_all
  ·simp_all
  ·simp_all
  ·rename_i f' ajw g' js e;cases e;obtain⟨cv,rfl,hc⟩:=p;obtain⟨cv',e',mb⟩:=q rfl;cases e';exact Yh h' k hc mb
  all_goals simp_all
 ·rename_i ls id;split at h
  ·cases k;have h1:=KB h;have h2:ls.length=bs.length:=by rw[h1];simp[EI]
   rw[h2];exact yJ8 (fun q hq=>by
    have:q.1∈bs.map (·.1):=by grind
    rw[vJ7 h] at this;exact(by simpa[EI] using this:_∧_).2) (hk rfl)
  ·cases h
 ·cases h
theorem yTe {M L}:∀{l as vs t n cs bs out m},kR M.h l as=some (cs,bs)→PH l t n m=some out→zO (zX M) as vs→(∀i h s,l[i]? =some s→s.looks=true→zX L (t (n+i)) vs[i])→(l.any AX.isChn=true→∀i q,bs[i]? =some q→mw M L q.2 (m+i))→
  zO (mw M L) (vU bs) out
 |[],[],[],t,n,cs,bs,out,m,h,k,_,_,_=>by cases h;cases k;exact trivial
 |s::l,a::as,v::vs,t,n,cs,bs,out,m,h,k,p,q,hk=>by
  unfold kR at h;split at h
  ·rename_i c1 b1 c2 b2 h1 h2;cases h;unfold PH at k;split at k
   ·rename_i o1 o2 k1 k2;cases k;have e:∀b1 b2:List (Bool×Nat),vU (b1++b2)=vU b1++vU b2:=fun b1 b2=>by
     induction b1 with
     |nil=>rfl
     |cons x b1 ih=>obtain⟨io,y⟩:=x;cases io<;>simp[vU,ih]
    rw[e];have hnb:=vY7 h1;refine(Yi h1 k1 p.1 (q 0 (by simp) s rfl) (by grind)).append (yTe h2 k2 p.2 (fun i hi s' hs hl=>?_) fun hc i q hq=>?_)
    rotate_left
    ·have:=hk (by simp_all) (b1.length+i) q (by grind);grind
    have:=q (i+1) (by simp_all) s' (by simp_all) hl;grind
   ·cases k
  ·cases h
 |[],_::_,_,_,_,_,_,_,_,h,_,_,_,_=>by cases h
theorem yMl {L}(iY:Ok L):∀{os ids bs},EK L.h os ids=some bs→bs.length=os.flatten.length∧ids.length=os.length∧
  ∃us:List Value,zO (qA L) bs us∧∀{M cs},M.H=L.H→zO (qA M) cs us→pn (fun id cs B=>(∃cells,L.h id=some (.box true cells))∧(∃C,L.κ id=some C∧C.blk=some B∧C.rows=[])∧∃vals e,M.H[B]? =some (.cells vals e (0,0))∧zO (qA M) cs vals.toList) ids (xH os cs) (ids.map fun id=>((L.κ id).bind qE.blk).getD 0)
 |[],[],bs,h=>by cases h;exact⟨rfl,rfl,[],trivial,fun _ _=>trivial⟩
 |o::os,n::ns,bs,h=>by
  unfold EK at h;split at h
  ·rename_i cells rest h1 h2;obtain⟨hl,h⟩:=wQ h;cases h;obtain⟨C,hC,B,vals,e,q1,q2,q3,q4,_⟩:=iY.obj n _ h1;obtain⟨k1,k2,us,k3,k4⟩:=yMl iY h2;refine⟨by simp_all,by simp[k2],vals.toList++us,q4.append k3,fun{M cs} hH hc=>⟨⟨by grind,⟨C,hC,?_,q2⟩,vals,e,?_,?_⟩,?_⟩⟩
   ·simp_all
   ·simp_all
   ·have h1:=zO.take o.length hc;have Xy:=q4.length;simp_all
   ·have h1:=zO.drop o.length hc;have Xy:=q4.length;simp_all
  ·cases h
theorem vWm {h0 r c d}(h:qc h0 r c=some d):∀id∈wO [r] [c],∀own cells,h0 id≠some (.box own cells):=by
  unfold qc at h;split at h;all_goals (try (intro id an;simp[wO] at an;done))
  all_goals first
    |(done)
    | (intro Ew an own cells hb
       have:=List.mem_singleton.1 an;simp_all)
    |(cases h)
theorem yU0 {L}:∀{l cs d},kQ L l cs=some d→∀id∈wO l cs,∀own cells,L id≠some (.box own cells)
 |r::l,c::cs,d,h,id,an=>by
  unfold kQ at h;split at h
  ·rename_i x xs e1 e2;rw[PA] at an;rcases List.mem_append.1 an with an|an
   ·exact vWm e1 id an
   ·exact yU0 e2 id an
  ·cases h
end Go.Ab
