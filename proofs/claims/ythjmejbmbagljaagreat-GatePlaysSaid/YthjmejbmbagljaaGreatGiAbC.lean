/- part 2 -/
import Derived.Test.YthjmejbmbagljaaGreatGiAbB
import Derived.ProofKit
import Derived.Below
import Derived.Carry
set_option linter.unusedVariables false
set_option linter.unusedSimpArgs false
namespace Go.Ab
def zL.nilObj (M:zL)(nm:Nat)(o:Obj)(sz:Nat):zL:={M with κ:=κset M.κ nm ⟨none,0,sz,0,[]⟩,h:=yM M.h nm o}
def kL (t:Ty)(rows:Bool):Obj:=bif rows then .mat 0 [] else .arr true t []
def mh (t:Ty)(rows:Bool):Nat:=bif rows then 1 else t.size
theorem zL.nilObj_ok {M}(ok:Ok M){nm}(aU:M.h nm=none) t rows:
  Ok (M.nilObj nm (kL t rows) (mh t rows))∧yT M (M.nilObj nm (kL t rows) (mh t rows))∧(∀b,qN (M.nilObj nm (kL t rows) (mh t rows)) b→qN M b):=by
 have hO:∀M':zL,vA M' (kL t rows) ⟨none,0,mh t rows,0,[]⟩:=fun M'=>by
  cases rows with
  |false=>exact⟨rfl,rfl,by simp,rfl⟩
  |true=>exact⟨rfl,rfl,rfl,rfl,by simp[qE.fp],rfl⟩
 have x:yT M (M.nilObj nm (kL t rows) (mh t rows)):=⟨fun id C h=>by
  have bx:id≠nm:=fun e=>by rw[e,ok.non nm aU] at h;cases h
  exact⟨C,by show κset M.κ nm _ id=_;rw[κset_ne _ _ bx];exact h,C.le_refl⟩,fun _ h=>h,fun _ h=>h,fun _ _=>rfl,fun _ _=>rfl,fun _ _=>rfl⟩
 refine⟨Ok.build ok x (fun id=>id=nm) (fun id h=>yY _ _ h) (fun id h=>κset_ne _ _ h) (fun _ _ _ _ _ _ _ _ _=>rfl) (fun id o C h1 h2 h3 h4 b hb=>(ok.own b ⟨id,o,C,h2,h3,h4,hb⟩).1) (Nat.le_refl _)
  (fun id o e h=>?_) (fun id e h=>?_) (fun id o C b e h1 h2 h3 h4=>?_) ok.GF ok.Flt,x,fun b hb=>?_⟩
 ·subst e;have e1:(M.nilObj id (kL t rows) (mh t rows)).h id=some (kL t rows):=yV _ _ _;rw[e1] at h;cases h;exact⟨_,κset_same _ _ _,hO _⟩
 ·have e1:(M.nilObj id (kL t rows) (mh t rows)).h id=some (kL t rows):=yV _ _ _;simp_all
 ·subst e;have e1:(M.nilObj id (kL t rows) (mh t rows)).κ id=some _:=κset_same _ _ _;rw[e1] at h3;cases h3;simp[qE.fp] at h4
 ·obtain⟨id,o,C,h1,h2,h3,h4⟩:=hb;by_cases e:id=nm
  ·subst e;have e1:(M.nilObj id (kL t rows) (mh t rows)).κ id=some _:=κset_same _ _ _;rw[e1] at h3;cases h3;simp[qE.fp] at h4
  ·exact⟨id,o,C,by rw[←h1];exact(yY _ _ e).symm,h2,by rw[←h3];exact(κset_ne _ _ e).symm,h4⟩
theorem ke.same_mem {M M'}(hF:M'.F=M.F)(hG:M'.G=M.G)(hH:M'.H=M.H)(ho:∀b,qN M' b→qN M b):ke M M':=
 ⟨by grind,by grind,by grind,by grind,by grind,by simp_all,by grind,by grind,
  by grind,by grind⟩
theorem ke.refl M:ke M M:=.same_mem rfl rfl rfl (by simp)
section
variable {na nt:Nat} {a0:Nat→Value} {M0:zL} {w0 w:World} {a:Act}
theorem zP.set_left {α β R l}{m:List β}(h:zP R l m){j}{c:α}(hc:∀(h1:j<l.length) h2,R c m[j]):zP R (l.set j c) m:=by
 refine zP.of_get (by rw[List.length_set];exact h.length) fun i hi bI=>?_
 rw[List.length_set] at hi;by_cases e:j=i
 ·simp_all
 ·rw[List.getElem_set_ne e];exact h.get i hi bI
theorem Wt {st}{s j}(r:vV false na nt a0 M0 w0 st a w):vV false na nt a0 M0 w0 (Ut st s j) a w:=by
 obtain⟨M,h1,h2,h3,h4,h5⟩:=r.ex;unfold Ut;split
 ·split
  ·rename_i c hs;split
   ·rename_i c' u hf;have hv:=h5 s;rw[hs] at hv;rw[←h1] at hf;obtain⟨L,k1,k2,k3,k4,k5,_⟩:=JH h3 (jG.refl _) (show zZ M c _ from hv) hf;refine⟨⟨L,by rw[k2,h1],k1.trans h2,k3,h4.trans k4.grow,fun t=>?_⟩,r.defers,r.size,r.os,r.tape,r.output,r.keep⟩;show zX _ (jX st.t s _ t) _;unfold jX;cases e:Nat.beq t s with
    |false=>exact(h5 t).ext k4.ext
    |true=>
     have e:t=s:=by simpa using e
     subst e;exact k5
   ·exact r
  ·exact r
 ·rename_i j;split
  ·rename_i id hs;split
   ·rename_i cells an;split
    ·rename_i c yX;split
     ·rename_i c' u hf;rw[←h1] at hf an;obtain⟨C0,sk,hO0⟩:=h3.obj id _ an;obtain⟨B0,xo,e0,b10,b20,b30,b40,b50⟩:=hO0;have hj:j<cells.length:=(List.getElem?_eq_some_iff.1 yX).1;have Wu:j<xo.toList.length:=by rw[←b40.length];exact hj
      have lC:=b40.get j hj Wu;have ec:cells[j]=c:=by grind
      rw[ec] at lC;obtain⟨L,k1,k2,k3,k4,k5,k6,_⟩:=JH h3 (jG.refl _) lC hf;have Bt:L.h id=some (.box true cells):=by
       rcases k6 id with h|⟨own,t,xs,h,_⟩|⟨ver,xs,h,_⟩
       all_goals simp_all
      obtain⟨C,hC,hO⟩:=k3.obj id _ Bt;obtain⟨B,vals,e,b1,b2,b3,b4,b5⟩:=hO;obtain⟨C1,iS,le⟩:=k4.ext.κ id C0 sk;rw[hC] at iS;cases iS;have eB:B=B0:=by rw[le.blk,b10] at b1;simp_all
      subst eB;rw[k1,b30] at b3;cases b3;have hx:=zL.write_ext (H':=L.H) k3 Bt rfl hC C.le_refl (by simp) (by simp) (.box true (cells.set j c'));have hw := zL.write_ok (H' := L.H) (o' := .box true (cells.set j c')) k3 Bt rfl hC C.le_refl (by simp) rfl (by simp) (by simp) (by
       refine⟨B,xo,e0,b1,b2,by show L.H[B]? =_;simp_all,?_,by simp⟩;exact(b4.mono fun _ _ h=>h.ext hx).set_left fun _ _=>k5.ext hx)
      refine⟨⟨L.write id (.box true (cells.set j c')) C L.H,?_,k1.trans h2,hw.1,(h4.trans k4.grow).trans hw.2.grow,fun t=>((h5 t).ext k4.ext).ext hx⟩,r.defers,r.size,r.os,r.tape,r.output,r.keep⟩;show yM L.h id _=yM (qJ st.h u) id _;rw[k2,h1]
     ·exact r
    ·exact r
   ·exact r
  ·rename_i cells hs;split
   ·rename_i c yX;split
    ·rename_i c' u hf;have hv:=h5 s;rw[hs] at hv;obtain⟨vs,dI,bn⟩:=hv;rw[←h1] at hf;have hj:j<cells.length:=by grind
     have Wu:j<vs.toList.length:=by rw[←bn.length];exact hj
     have lC:=bn.get j hj Wu;have ec:cells[j]=c:=by grind
     rw[ec] at lC;obtain⟨L,k1,k2,k3,k4,k5,k6,_⟩:=JH h3 (jG.refl _) lC hf;refine⟨⟨L,by rw[k2,h1],k1.trans h2,k3,h4.trans k4.grow,fun t=>?_⟩,r.defers,r.size,r.os,r.tape,r.output,r.keep⟩;show zX _ (jX st.t s _ t) _;unfold jX;cases e:Nat.beq t s with
     |false=>exact(h5 t).ext k4.ext
     |true=>
      have e:t=s:=by simpa using e
      subst e;exact⟨vs,dI,(bn.mono fun _ _ h=>h.ext k4.ext).set_left (by grind)⟩
    ·exact r
   ·exact r
  ·exact r
theorem vN9 {st nm g}(r:vV false na nt a0 M0 w0 st a w)(aU:st.h nm=none):vV false na nt a0 M0 w0 (Uu st nm g) a w:=by
 obtain⟨M,h1,h2,h3,h4,h5⟩:=r.ex;have hM:M.h nm=none:=by simp_all
 obtain⟨k1,k2,k3⟩:=M.nilObj_ok h3 hM g.2.2.1 g.2.2.2;have cO:zZ (M.nilObj nm (kL g.2.2.1 g.2.2.2) (mh g.2.2.1 g.2.2.2)) (.osl nm none) (.slice none 0 0):=⟨_,κset_same _ _ _,none,0,rfl,rfl,rfl,rfl⟩;have gr:ug false M0 (M.nilObj nm (kL g.2.2.1 g.2.2.2) (mh g.2.2.1 g.2.2.2)):=h4.trans (.same_mem rfl rfl rfl k3);unfold Uu;cases ahn:g.2.2.2&&yQk g.2.2.1 with
 |true=>exact Wt r
 |false=>
 split
 ·split
  ·rename_i hs;refine⟨⟨M.nilObj nm (kL g.2.2.1 g.2.2.2) (mh g.2.2.1 g.2.2.2),?_,h2,k1,gr,fun t=>?_⟩,r.defers,r.size,r.os,r.tape,r.output,r.keep⟩
   ·show yM M.h nm _=yM st.h nm _;rw[h1];rfl
   ·show zX _ (jX st.t g.1 _ t) _;unfold jX;cases e:Nat.beq t g.1 with
    |false=>exact(h5 t).ext k2
    |true=>
     have e:t=g.1:=by simpa using e
     subst e;have hv:=h5 g.1;rw[hs] at hv;rw[hv];exact cO
  ·exact r
 ·rename_i j hj;split
  ·rename_i id hs;split
   ·rename_i cells an;split
    ·have bx:id≠nm:=by grind
     let M1:=M.nilObj nm (kL g.2.2.1 g.2.2.2) (mh g.2.2.1 g.2.2.2);have pR:M1.h id=some (.box true cells):=by
      show yM M.h nm _ id=_;rw[yY _ _ bx,h1];exact an
     obtain⟨C,hC,hO⟩:=k1.obj id _ pR;obtain⟨B,vals,e,b1,b2,b3,b4,b5⟩:=hO;have hx:=zL.write_ext (H':=M1.H) k1 pR rfl hC C.le_refl (by grind) (by grind) (.box true (cells.set j (.osl nm none)));have hw := zL.write_ok (H' := M1.H) (o' := .box true (cells.set j (.osl nm none))) k1 pR rfl hC C.le_refl (by simp) rfl (by grind) (by grind) (by
      refine⟨B,vals,e,b1,b2,b3,?_,by simp⟩;have hl:=b4.length;refine zP.of_get (by simp_all) fun i hi bI=>?_
      have hb:=b4.get i (by omega) bI;by_cases eij:j=i
      ·subst eij;rw[List.getElem_set_self];have ec:cells[j]=.nsl:=by
        grind
       rw[ec] at hb;rw[hb];exact cO.ext hx
      ·rw[List.getElem_set_ne eij];exact hb.ext hx)
     refine⟨⟨M1.write id (.box true (cells.set j (.osl nm none))) C M1.H,?_,h2,hw.1,gr.trans hw.2.grow,fun t=>((h5 t).ext k2).ext hx⟩,r.defers,r.size,r.os,r.tape,r.output,r.keep⟩;show yM (yM M.h nm _) id _=yM (yM st.h nm _) id _;rw[h1];rfl
    ·exact r
   ·exact r
  ·exact r
theorem vEy:∀{l st bJ nm},vV false na nt a0 M0 w0 st a w→OE st nm l=some bJ→vV false na nt a0 M0 w0 bJ a w
 |[],st,bJ,nm,r,h=>by cases h;exact r
 |g::l,st,bJ,nm,r,h=>by
  unfold OE at h;split at h
  ·rename_i aU;exact vEy (vN9 r aU) h
  ·cases h
theorem yRr {id}:∀{l n i},fy id l n=some i→n≤i∧l[i-n]? =some id
 |x::l,n,i,h=>by
  unfold fy at h;cases e:Nat.beq x id with
  |true=>
   simp_all
  |false=>
   rw[e] at h;obtain⟨h1,h2⟩:=yRr (l:=l) h;grind
theorem Wv {h}:∀n {todo seen},seen.Nodup→(DW h n todo seen).Nodup
 |0,_,_,hs
 |n+1,[],_,hs=>hs
 |n+1,id::todo,seen,hs=>by
  unfold DW;cases e:seen.any (Nat.beq id) with
  |true=>exact Wv n hs
  |false=>
   refine Wv n (List.nodup_append.2 ⟨hs,by simp,fun x hx y hy exy=>?_⟩);have:y=id:=by simp_all
   have:=List.any_eq_false.1 e x hx;simp_all
def pX (base : Nat) (κ : Nat → Option qE) (ids : List Nat) : Nat → Option qE := fun n => if base ≤ n then (match ids[n-base]? with
 |some id=>(κ id).map fun C=>{C with ver:=0}
 |none=>none) else none
def zL.ren (M:zL)(base:Nat)(ids:List Nat):zL:={M with κ:=pX base M.κ ids,h:=AZ base M.h ids}
theorem vM2 {base h ids n o}(e:AZ base h ids n=some o):∃id o',base≤n∧ids[n-base]? =some id∧h id=some o'∧o=w9 h (fun i=>(fy i ids 0).map (base+·)) o':=by
 unfold AZ at e;cases hb:Nat.ble base n with
 |false=>simp_all
 |true=>
  rw[hb] at e;split at e
  ·obtain⟨o',h1,h2⟩:=Option.map_eq_some_iff.1 e;simp_all
  ·cases e
theorem Ww {base κ ids id i C}(hi:fy id ids 0=some i)(hC:κ id=some C):pX base κ ids (base+i)=some {C with ver:=0}:=by
 obtain⟨_,h⟩:=yRr hi;unfold pX;simp_all
theorem Wx {M}(ok:Ok M){base ids c v}(h:zZ M c v):zZ (M.ren base ids) (w8 M.h (fun i=>(fy i ids 0).map (base+·)) c) v:=by
 have h1:=h.one;have look:∀id C,M.κ id=some C→∀i,(fy id ids 0).map (base+·)=some i→(M.ren base ids).κ i=some {C with ver:=0}:=fun id C hC i hi=>by
  obtain⟨j,hj,rfl⟩:=Option.map_eq_some_iff.1 hi;exact Ww hj hC
 unfold w8;cases c with
 |osl id r=>
  dsimp only;obtain⟨C,hC,h⟩:=h;cases e:(fy id ids 0).map (base+·) with
  |none=>exact h1
  |some i=>cases r with
   |none=>exact⟨_,look id C hC i e,h⟩
   |some p=>exact⟨_,look id C hC i e,h⟩
 |bsl id x y=>
  dsimp only;obtain⟨C,B,hC,h⟩:=h;cases e:(fy id ids 0).map (base+·) with
  |none=>exact h1
  |some i=>exact⟨_,B,look id C hC i e,h⟩
 |ptr id x=>
  dsimp only;obtain⟨C,B,hC,h⟩:=h;cases e:(fy id ids 0).map (base+·) with
  |none=>exact h1
  |some i=>exact⟨_,B,look id C hC i e,h⟩
 |eptr id x y=>
  dsimp only;obtain⟨C,B,hC,h⟩:=h;cases e:(fy id ids 0).map (base+·) with
  |none=>exact h1
  |some i=>exact⟨_,B,look id C hC i e,h⟩
 |mrow id x ver=>
  dsimp only;obtain⟨C,hC,ho,hle,h⟩:=h;cases e:(fy id ids 0).map (base+·) with
  |none=>exact h1
  |some i=>
   split
   ·rename_i i' v' xs ei an;cases ei;cases fS:Nat.beq v' ver with
    |false=>exact h1
    |true=>
     have iP:v'=ver:=by simpa using fS
     obtain⟨C',aF,hO⟩:=ok.obj id _ an;rw[hC] at aF;cases aF;exact⟨_,look id C hC i e,h1,Nat.le_refl _,fun _=>h (by rw[hO.1,iP])⟩
   ·exact h1
 |mptr id x=>
  dsimp only;obtain⟨C,B,hC,h⟩:=h;cases e:(fy id ids 0).map (base+·) with
  |none=>exact h1
  |some i=>exact⟨_,B,look id C hC i e,h⟩
 |meptr id x y ver=>
  dsimp only;obtain⟨C,hC,ho,hle,h⟩:=h;cases e:(fy id ids 0).map (base+·) with
  |none=>exact h1
  |some i=>
   split
   ·rename_i i' v' xs ei an;cases ei;cases fS:Nat.beq v' ver with
    |false=>exact h1
    |true=>
     have iP:v'=ver:=by simp_all
     obtain⟨C',aF,hO⟩:=ok.obj id _ an;rw[hC] at aF;cases aF;exact⟨_,look id C hC i e,h1,by simp,fun _=>h (by rw[hO.1,iP])⟩
   ·exact h1
 |map id=>
  dsimp only;obtain⟨C,B,hC,h⟩:=h;cases e:(fy id ids 0).map (base+·) with
  |none=>exact h1
  |some i=>exact⟨_,B,look id C hC i e,h⟩
 |fn f cap=>
  dsimp only;obtain⟨cv,rfl,h⟩:=h;split
  ·rename_i c hc;refine⟨cv,rfl,?_⟩;have:=J6 _ _ _ hc;generalize cv.toList=l at h;clear hc h1
   induction cap generalizing c l with
   |nil=>cases c with
    |nil=>cases l with
     |nil=>trivial
     |cons _ _=>exact h.elim
    |cons _ _=>exact this.elim
   |cons x cap ih=>cases c with
    |nil=>exact this.elim
    |cons y c=>cases l with
     |nil=>exact h.elim
     |cons u l=>
      obtain⟨⟨C,B,hC,hh⟩,h⟩:=h;exact⟨⟨_,B,look x C hC y this.1,hh⟩,ih c this.2 l h⟩
  rfl
 |fsl sh t xs=>exact h
 |fptr sh t x off=>exact h
 |_=>exact h
theorem Kh {M}(ok:Ok M){base ids}:∀{cs vs},zP (zZ M) cs vs→zP (zZ (M.ren base ids)) (cs.map (w8 M.h fun i=>(fy i ids 0).map (base+·))) vs
 |[],[],_=>trivial
 |_::_,_::_,h=>⟨Wx ok h.1,Kh ok h.2⟩
theorem vKz {M}(ok:Ok M){base ids x v}(h:zX M x v):zX (M.ren base ids) (yLu M.h (fun i=>(fy i ids 0).map (base+·)) x) v:=by
 cases x with
 |undef=>trivial
 |skp=>exact h
 |c x=>exact Wx (c:=x) ok h
 |agg cs=>
  obtain⟨vs,h1,h2⟩:=h;exact⟨vs,h1,Kh ok h2⟩
 |tup xs=>
  obtain⟨vs,h1,h2⟩:=h;refine⟨vs,h1,zP.map_left (h2.mono fun p u hp=>?_)⟩;obtain⟨b,cs⟩:=p;cases b with
  |true=>
   obtain⟨us,q1,q2⟩:=hp;exact⟨us,q1,Kh ok q2⟩
  |false=>
   cases cs with
   |nil=>exact hp
   |cons c cs=>cases cs with
    |nil=>exact Wx (c:=c) ok hp
    |cons _ _=>exact hp
theorem yLb {M}(ok:Ok M){base ids o C}(h:vA M o C):vA (M.ren base ids) (w9 M.h (fun i=>(fy i ids 0).map (base+·)) o) {C with ver:=0}:=by
 cases o with
 |box own cells=>
  obtain⟨B,vals,e,h1,h2,h3,h4,h5⟩:=h;exact⟨B,vals,e,h1,h2,h3,Kh ok h4,h5⟩
 |robox cells=>
  obtain⟨B,vals,e,h1,h2,h3,h4,h5⟩:=h;exact⟨B,vals,e,h1,h2,h3,Kh ok h4,h5⟩
 |arr own t xs=>exact h
 |mat ver xs=>
  obtain⟨h1,h2⟩:=h;exact⟨rfl,h2⟩
 |pmat ver xs n=>
  obtain⟨h1,h2⟩:=h;exact⟨rfl,h2⟩
 |imap df=>exact h
 |gone=>trivial
theorem Wy {h ρ} o:(w9 h ρ o).owned=o.owned:=by cases o<;>rfl
theorem zL.ren_ok {M}(ok:Ok M){base ids}(dJ:ids.Nodup):Ok (M.ren base ids)∧∀b,qN (M.ren base ids) b→qN M b:=by
 have at':∀n o,(M.ren base ids).h n=some o→∃id o' C,base≤n∧ids[n-base]? =some id∧M.h id=some o'∧M.κ id=some C∧o=w9 M.h (fun i=>(fy i ids 0).map (base+·)) o'∧vA M o' C∧(M.ren base ids).κ n=some {C with ver:=0}:=fun n o h=>by
  obtain⟨id,o',h1,h2,h3,h4⟩:=vM2 h;obtain⟨C,hC,hO⟩:=ok.obj id _ h3;refine⟨id,o',C,h1,h2,h3,hC,h4,hO,?_⟩;show pX base M.κ ids n=_;unfold pX;simp_all
 have nJ:∀b,qN (M.ren base ids) b→qN M b:=fun b ⟨n,o,C,h1,h2,h3,h4⟩=>by
  obtain⟨id,o',C',k1,k2,k3,k4,k5,k6,k7⟩:=at' n o h1;rw[k7] at h3;cases h3;exact⟨id,o',C',k3,by rw[←h2,k5,Wy],k4,h4⟩
 refine⟨⟨fun n o h=>?_,fun n h=>?_,fun i j oi oj Ci Cj b mT h1 h2 h3 h4 h5 h6 h7 h8=>?_,fun b h=>ok.own b (nJ b h),ok.GF,ok.Flt⟩,nJ⟩
 ·obtain⟨id,o',C,k1,k2,k3,k4,rfl,k6,k7⟩:=at' n o h;exact⟨_,k7,yLb ok k6⟩
 ·show pX base M.κ ids n=none;unfold pX;split
  ·rename_i hb;split
   ·rename_i id an;have:M.h id=none:=by
     cases e:M.h id with
     |none=>rfl
     |some o=>
      have:(M.ren base ids).h n=some (w9 M.h (fun i=>(fy i ids 0).map (base+·)) o):=by
       show AZ base M.h ids n=_;unfold AZ;rw[show Nat.ble base n=true from Nat.ble_eq_true_of_le hb,an];simp[e]
      simp_all
    rw[ok.non id this];rfl
   ·rfl
  ·rfl
 ·obtain⟨id,o',C,k1,k2,k3,k4,k5,k6,k7⟩:=at' i oi h1;obtain⟨jd,p',D,q1,q2,q3,q4,q5,q6,q7⟩:=at' j oj h2;rw[k7] at h5;rw[q7] at h6;cases h5;cases h6;refine ok.disj id jd o' p' C D b (fun e=>?_) k3 q3 (by rw[←h3,k5,Wy]) (by rw[←h4,q5,Wy]) k4 q4 h7 h8;have hi:=(List.getElem?_eq_some_iff.1 k2);have hj:=(List.getElem?_eq_some_iff.1 q2);have:=(List.getElem_inj (h₀:=hi.1) (h₁:=hj.1) dJ).1 (by omega);omega
theorem yX1:∀{a b},Ow a b=true→a=b
 |[],[],_=>rfl
 |x::a,y::b,h=>by
  simp only[Ow,Bool.and_eq_true] at h;rw[Nat.eq_of_beq_eq_true h.1,yX1 h.2]
theorem Wz {c v}(h:Ul c v=true):c=.undef∨c=v:=by
 unfold Ul at h;split at h
 ·simp
 ·simp
 ·simp
 ·simp
 ·simp
 ·simp_all
 ·simp_all
 ·simp_all
 ·simp only[Bool.and_eq_true] at h;exact .inr (by rw[Nat.eq_of_beq_eq_true h.1,yX1 h.2])
 all_goals simp_all
theorem nR {α:Type}{c x}{y:α}(h:(bif c then x else none)=some y):c=true∧x=some y:=by
 grind
theorem uk {M}(ok:Ok M):∀{l cs d vs},mP l cs=some d→zP (zZ M) cs vs→zP (zZ M) (pM l d) vs
 |[],[],_,[],_,_=>trivial
 |.int k::l,c::cs,d,v::vs,h,hv=>by
  cases c<;>first|(cases h;done)|skip
  obtain⟨hk,h⟩:=nR h;split at h
  ·rename_i d' hd;cases h;refine⟨?_,uk ok hd hv.2⟩;rw[←tI hk];exact hv.1
  ·cases h
 |.bool::l,c::cs,d,v::vs,h,hv=>by
  cases c<;>first|(cases h)|skip
  unfold mP at h;split at h
  ·rename_i d' hd;cases h;exact⟨hv.1,uk ok hd hv.2⟩
  ·cases h
 |.dat sh t::l,c::cs,d,v::vs,h,hv=>by
  cases c<;>first|(cases h;done)|skip
  ·rename_i JA s xs;obtain⟨hs,h⟩:=nR h;split at h
   ·rename_i ys d' hx hd;cases h;obtain⟨e,hx⟩:=lA hx;subst e;subst hx;refine⟨?_,uk ok hd hv.2⟩;have h1:qF M.H (bif JA then M.G else M.F) (.sl s) xs (fun _=>some v):=hv.1;cases sh with
    |true=>
     have:JA=true:=by simp_all
     subst this;exact h1
    |false=>cases JA with
     |false=>exact h1
     |true=>exact vD ok.GF (by simp) _ _ _ _ (by simp) h1
   ·cases h
  ·unfold mP at h;split at h
   ·rename_i d' hd;cases h;refine⟨?_,uk ok hd hv.2⟩;rw[show v=.slice none 0 0 from hv.1];exact⟨none,0,0,rfl,rfl,by simp,by simp⟩
   ·cases h
 |.lit c::l,x::cs,d,v::vs,h,hv=>by
  obtain⟨he,h⟩:=nR h;refine⟨?_,uk ok h hv.2⟩;rcases Wz he with rfl|rfl
  ·exact hv.1.one
  ·exact hv.1
theorem WA {M}(ok:Ok M){v a d rv}(h:Um v a=some d)(hv:zX M a rv):zX M (Un v d) rv:=by
 cases v with
 |c x=>
  cases a with
  |c y=>
   have:=uk ok (vs:=[rv]) (show mP [x] [y]=some d from h) ⟨hv,trivial⟩;show zX M (match pM [x] d with|c::_=>.c c|[]=>.undef) rv
   match hh:pM [x] d,this with
   |[c],this=>exact this.1
  |_=>cases h
 |agg l=>
  cases a with
  |agg vs=>
   obtain⟨us,rfl,hx⟩:=hv;exact⟨us,rfl,uk ok (show mP l vs=some d from h) hx⟩
  |_=>cases h
theorem WB {M}(ok:Ok M){o x d C}(h:Ox o x=some d)(hO:vA M x C)(hv:C.ver=0):vA M (Oy o d) C∧(Oy o d).owned=x.owned:=by
 unfold Ox at h;split at h
 ·obtain⟨he,h'⟩:=nR h;have he:=eq_of_beq he;subst he;clear h;obtain⟨B,vals,e,h1,h2,h3,h4,h5⟩:=hO;exact⟨⟨B,vals,e,h1,h2,h3,uk ok h' h4,h5⟩,rfl⟩
 ·obtain⟨B,vals,e,h1,h2,h3,h4,h5⟩:=hO;exact⟨⟨B,vals,e,h1,h2,h3,uk ok h h4,h5⟩,rfl⟩
 ·obtain⟨he,h'⟩:=nR h;have he:=eq_of_beq he;subst he;obtain⟨e,hx⟩:=lA h';subst e;subst hx;exact⟨hO,rfl⟩
 ·cases h;exact⟨⟨hv,hO.2⟩,rfl⟩
 ·cases h;exact⟨⟨hv,hO.2⟩,rfl⟩
 ·cases h;exact⟨hO,rfl⟩
 ·cases h
theorem yPt {f t}:∀{l d n v},OF f t l=some d→(DT l d).lookup n=some v→∃(s:VS) (x:SL s.cells),Um s (f (t n))=some x∧v=Un s x
 |s::l,d,n,v,hr,h=>by
  unfold OF at hr;split at hr
  ·rename_i x ds h1 h2;cases hr;unfold DT at h;rw[List.lookup_cons] at h;cases e:n==s.1 with
   |true=>
    grind
   |false=>
    rw[e] at h;exact yPt h2 h
  ·cases hr
theorem vFu {f h0}:∀{l ids d},OG f h0 l ids=some d→(tO l d).length=ids.length∧∀(i:Nat) o,(tO l d)[i]? =some o→∃(s:OS) (x:s.den) (id:Nat) (y:Obj),ids[i]? =some id∧h0 id=some y∧Ox s (f y)=some x∧o=Oy s x
 |[],[],d,_=>⟨rfl,nofun⟩
 |s::l,id::ids,d,h=>by
  unfold OG at h;split at h
  ·rename_i x ds h1 h2;cases h;obtain⟨y,h3,h4⟩:=Option.bind_eq_some_iff.1 h1;obtain⟨k1,k2⟩:=vFu h2;refine⟨by simp[tO,k1],fun i o hi=>?_⟩;cases i with
   |zero=>
    simp[tO] at hi;grind
   |succ i=>
    simp[tO] at hi;simp_all
  ·cases h
theorem vSm {g0 base n:Nat}{S:zE}{st:St}{d:S.den}(r:vV false na nt a0 M0 w0 st a w)(h:Uv g0 base n S st=some d):vV false na nt a0 M0 w0 (zM base S d) a w:=by
 unfold Uv at h;split at h
 ·cases h
 rename_i Ki hg;have r:=vEy r hg;dsimp only at h;generalize kI:DW Ki.h n _ []=ids at h;have dJ:ids.Nodup:=by rw[←kI];exact Wv n List.nodup_nil
 split at h
 case h_2=>cases h
 rename_i da db ha hb;cases h;obtain⟨M,h1,h2,h3,h4,h5⟩:=r.ex;rw[←h1] at ha hb;obtain⟨k1,k2⟩:=M.ren_ok h3 (base:=base) dJ;obtain⟨ol,oa⟩:=vFu hb;let M':zL:={M.ren base ids with h:=(zM base S (da,db)).h};have Po:∀n o',M'.h n=some o'→∃o C,(M.ren base ids).h n=some o∧M'.κ n=some C∧vA (M.ren base ids) o' C∧o'.owned=o.owned:=fun m o' e=>by
  have e:(bif Nat.ble base m then(tO S.objs db)[m-base]? else none)=some o':=e;obtain⟨hle,e⟩:=nR e;obtain⟨s,x,id,y,q1,q2,q3,rfl⟩:=oa _ _ e;obtain⟨C,hC,hO⟩:=h3.obj id y q2;have hκ:(M.ren base ids).κ m=some {C with ver:=0}:=by
   show pX base M.κ ids m=_;unfold pX;simp_all
  have hh:(M.ren base ids).h m=some (w9 M.h (fun i=>(fy i ids 0).map (base+·)) y):=by
   show AZ base M.h ids m=_;unfold AZ;grind
  obtain⟨p1,p2⟩:=WB k1 q3 (yLb h3 hO) rfl;grind
 have x:yT (M.ren base ids) M':=⟨fun _ C h=>⟨C,h,C.le_refl⟩,fun _ h=>h,fun _ h=>h,fun _ _=>rfl,by grind,fun _ _=>rfl⟩;have aN:∀b,qN M' b→qN (M.ren base ids) b:=fun b ⟨id,o',C,q1,q2,q3,q4⟩=>by
  obtain⟨o,D,p1,p2,p3,p4⟩:=Po id o' q1;exact⟨id,o,C,p1,by rw[←p4];exact q2,q3,q4⟩
 have gT:Ok M':=by
  refine⟨fun id o' q=>?_,fun id q=>?_,fun i j oi oj Ci Cj b mT q1 q2 q3 q4 q5 q6 q7 q8=>?_,fun b hb=>k1.own b (aN b hb),k1.GF,k1.Flt⟩
  ·obtain⟨o,C,p1,p2,p3,p4⟩:=Po id o' q;exact⟨C,p2,p3.ext x (by grind)⟩
  ·have q:(bif Nat.ble base id then(tO S.objs db)[id-base]? else none)=none:=q;show pX base M.κ ids id=none;unfold pX;cases hle:Nat.ble base id with
   |false=>rw[if_neg fun h=>by rw[Nat.ble_eq_true_of_le h] at hle;cases hle]
   |true=>
    simp_all
  ·obtain⟨o1,C1,p1,p2,p3,p4⟩:=Po i oi q1;obtain⟨o2,C2,p5,p6,p7,p8⟩:=Po j oj q2;exact k1.disj i j o1 o2 Ci Cj b mT p1 p5 (by rw[←p4];exact q3) (by rw[←p8];exact q4) q5 q6 q7 q8
 refine⟨⟨M',rfl,h2,gT,h4.trans (.same_mem rfl rfl rfl (by grind)),fun m=>?_⟩,r.defers,r.size,r.os,r.tape,r.output,r.keep⟩;show zX M' (match(DT S.slots da).lookup m with|some v=>v|none=>.undef) _;cases hl:(DT S.slots da).lookup m with
 |none=>trivial
 |some v=>
  obtain⟨s,y,q1,rfl⟩:=yPt ha hl;exact(WA k1 q1 (vKz h3 (h5 m))).ext x
theorem Pp {pre S st d}(r:vV false na nt a0 M0 w0 st a w)(h:JC pre S st=some d):vV false na nt a0 M0 w0 (zM (pre+iw) S d) a w:=vSm r h
end
end Go.Ab
set_option linter.unusedSectionVars false
namespace Go.Ab
def Ex.toExit:Ex→Exit
 |.normal=>.normal
 |.ret=>.ret
 |.exit id=>.exit id
theorem vJh {P Q c}(I:Nat→Act→World→Prop)(round:∀n a w,I n a w→c.wp P (Exit.then (fun a' w'=>∃m,m<n∧I m a' w') Q) a w){n a w}(h₀:I n a w):(Code.loop c).wp P Q a w:=by
 intro b k cs;have key:∀n a w,I n a w→∃e a' w',Q e a' w'∧Arrives P (lone (b.at a (.code c::.inLoop c::k)) cs w) b k cs e a' w':=by
  intro n
  induction n using Nat.strongRecOn with
  |_ n ih=>
   intro a w hI;obtain⟨e,a₁,w₁,hq,kM⟩:=round n a w hI b (.inLoop c::k) cs;cases e with
   |normal=>
    obtain⟨m,hm,hI₁⟩:=hq;obtain⟨e₂,a₂,w₂,hq₂,harr₂⟩:=ih m hm a₁ w₁ hI₁;exact⟨e₂,a₂,w₂,hq₂,.of_steps (Steps.trans kM (.one step_inLoop)) harr₂⟩
   |exit id=>exact⟨_,a₁,w₁,hq,.pass (x:=.inLoop c) rfl (by simp) kM⟩
   |goto l=>exact⟨_,a₁,w₁,hq,.pass (x:=.inLoop c) rfl (by simp) kM⟩
   |ret=>exact⟨_,a₁,w₁,hq,.pass (x:=.inLoop c) rfl (fun _ _=>.inl (by simp)) kM⟩
   |panic ch=>exact⟨_,a₁,w₁,hq,.pass (x:=.inLoop c) rfl (fun _ _=>.inl (by simp)) kM⟩
   |outgrown=>exact⟨_,a₁,w₁,hq,.pass (x:=.inLoop c) rfl (by simp) kM⟩
 obtain⟨e,a',w',hq,kM⟩:=key n a w h₀;exact⟨e,a',w',hq,.of_steps (.one step_loop) kM⟩
def Pq (tmps:Array Value):ResultVar→Sem Value
 |.tmp t=>pure (tmps.getD t undef)
 |.cell c t=>do loadVar t (←asAddr (tmps.getD c undef))
def Bu (base:Nat):(l:List (Ex×zE))→wx l→Ex×St
 |[],d=>(.normal,⟨fun _=>.undef,fun _=>none⟩)
 |[p],d=>(p.1,zM base p.2 d)
 |p::q::l,d=>match d with
  |.inl d=>(p.1,zM base p.2 d)
  |.inr d=>Bu base (q::l) d
theorem yTy {R base K}{out:R}:∀{l d},DY base l d K=some out→K (Bu base l d).1 (Bu base l d).2=some out
 |[p],_,h
 |p::q::l,.inl d,h=>h
 |p::q::l,.inr d,h=>yTy (l:=q::l) h
def Kj (base:Nat):(l:List zE)→rU l→St
 |[],_=>⟨fun _=>.undef,fun _=>none⟩
 |[S],d=>zM base S d
 |S::T::l,d=>match d with
  |.inl d=>zM base S d
  |.inr d=>Kj base (T::l) d
theorem vDk {R base K}{out:R}:∀{l d},OH base l d K=some out→K (Kj base l d)=some out
 |[S],_,h
 |S::T::l,.inl d,h=>h
 |S::T::l,.inr d,h=>vDk (l:=T::l) h
def zU (P:Program)(pre na nt:Nat)(b:Code)(L:zV):Prop:=∀k d x,L.sum k d=some x→∀(a0:Nat→Value) (M0:zL) (w0:World) (a:Act) (w:World) (Q:Exit→Act→World→Prop),
 vV false na nt a0 M0 w0 (Kj (pre+iw) L.ins d) a w→
 (∀(o:wx L.outs) a' w',(∀R K,L.elim (pre+iw) x R K=DY (pre+iw) L.outs o K)→vV false na nt a0 M0 w0 (Bu (pre+iw) L.outs o).2 a' w'→Q (Bu (pre+iw) L.outs o).1.toExit a' w')→
 (Code.loop b).wp P Q a w
def wN (P:Program)(A:zW)(pre na nt:Nat):Code→Prop
 |.seq a b=>wN P A pre na nt a∧wN P A pre na nt b
 |.cond _ a b=>wN P A pre na nt a∧wN P A pre na nt b
 |.block _ b=>wN P A pre na nt b
 |.loop b=>(∀L,xa A b=some L→zU P pre na nt b L)∧(xa A b=none→wN P A pre na nt b)
 |_=>True
theorem vDz {A c b st}(h:st.ev c=.c (.bool b)):OI A c b st=st:=by
 unfold OI;split
 ·rw[Wa h]
 ·rfl
section
variable {nl:Bool} {E:Env} {A:zW} {k pre na nt:Nat} {a0:Nat→Value} {R:Type} {M0:zL} {w0:World} {out:R}
theorem WC {a w st}(r:vV false na nt a0 M0 w0 st a w):∀{l x},DX pre l st=some x→vV false na nt a0 M0 w0 (Kj (pre+iw) l x) a w
 |[S],x,h=>Pp r h
 |S::T::l,x,h=>by
  unfold DX at h;split at h
  ·rename_i d hd;cases h;exact Pp r hd
  ·split at h
   ·rename_i d hd;cases h;exact WC r (l:=T::l) hd
   ·cases h
theorem yHi (hE:gy E)(hS:kb E.sums)(hm:E.P.follows .mixedOrders=true)(O9:nl=true→A.loops=[]):∀c,wN E.P A pre na nt c→∀st K a w Q,kD E A k pre na nt c st K=some out→vV nl na nt a0 M0 w0 st a w→
  (∀e bJ a' w',vV nl na nt a0 M0 w0 bJ a' w'→K e bJ=some out→Q e.toExit a' w')→c.wp E.P Q a w:=by
 intro c
 induction c with
 |skip=>exact fun _ st K a w Q h r hK=>wp_skip (hK .normal st a w r h)
 |region id ops draw=>
  intro _ st K a w Q h r hK;cases draw with
  |true=>
   cases he:JB ops with
   |false=>simp only[kD,he] at h;cases h
   |true=>
    simp only[kD,he] at h;exact vNm hE hS hm he h r fun bJ a' w' r' h'=>hK .normal bJ a' w' r' h'
  |false=>
   have:=vAv hE (Q:=Q) _ _ _ _ a w (by grind) h r fun bJ a' w' r' h'=>hK .normal bJ a' w' r' h'
   refine wp_region ?_;have e:(ops.toList.zipIdx.map fun p=>(p.2,p.1)).map (·.1)=List.range ops.size:=by
    rw[List.map_map];have e2:((fun x:Nat×Oper=>x.1)∘fun p:Oper×Nat=>(p.2,p.1))=Prod.snd:=rfl;rw[e2,List.zipIdx_map_snd,←List.range_eq_range'];simp
   simp_all
 |seq x y WD WE=>
  intro hL st K a w Q h r hK;simp only[kD] at h;refine wp_seq (WD hL.1 st _ a w _ h r fun e bJ a' w' r' h'=>?_);cases e with
  |normal=>exact WE hL.2 bJ K a' w' Q h' r' hK
  |ret=>exact hK .ret bJ a' w' r' h'
  |exit id=>exact hK (.exit id) bJ a' w' r' h'
 |cond c x y WD WE=>
  intro hL st K a w Q h r hK;simp only[kD] at h;split at h
  ·rename_i t ht;obtain⟨M,_,_,_,_,hv⟩:=r.ex;have hc:=yS3 hv c;rw[ht] at hc;refine wp_cond (t:=t) hc ?_;cases t with
   |true=>
    rw[vDz ht,cond_true] at h;exact WD hL.1 st K a w Q h r hK
   |false=>
    rw[vDz ht,cond_false] at h;exact WE hL.2 st K a w Q h r hK
  ·cases h
 |block id b ih=>
  intro hL st K a w Q h r hK;simp only[kD] at h;refine wp_block (ih hL st _ a w _ h r fun e bJ a' w' r' h'=>?_);cases e with
  |normal=>exact hK .normal bJ a' w' r' h'
  |ret=>exact hK .ret bJ a' w' r' h'
  |exit i=>
   show if i=id then Q .normal a' w' else Q (.exit i) a' w'
   dsimp only at h';cases e:Nat.beq i id with
   |true=>
    rw[e] at h';rw[if_pos (by simpa using e)];exact hK .normal bJ a' w' r' h'
   |false=>
    rw[e] at h';rw[if_neg (fun e'=>by simp_all)];exact hK (.exit i) bJ a' w' r' h'
 |loop b ih=>
  intro hL st K a w Q h r hK;simp only[kD] at h;split at h
  ·rename_i hN;refine vJh (fun n a w=>∃st,vV nl na nt a0 M0 w0 st a w∧Uw (kD E A k pre na nt b) n st K=some out) (fun n a w ⟨st,r,hi⟩=>?_) ⟨st,r,h⟩;cases n with
   |zero=>cases hi
   |succ n=>
    refine ih (hL.2 hN) st _ a w _ hi r fun e bJ a' w' r' h'=>?_
    cases e with
    |normal=>exact⟨n,by simp,bJ,r',h'⟩
    |ret=>exact hK .ret bJ a' w' r' h'
    |exit id=>exact hK (.exit id) bJ a' w' r' h'
  ·rename_i L hN;split at h
   ·cases h
   ·rename_i d hd;obtain⟨x,hx,h⟩:=Option.bind_eq_some_iff.1 h;cases nl with
    |true=>
     unfold xa at hN;grind
    |false=>exact hL.1 L hN k d x hx a0 M0 w0 a w Q (WC r hd) fun o a' w' ho r'=>hK _ _ a' w' r' (yTy (by simp_all))
 |exit id=>exact fun _ st K a w Q h r hK=>wp_exit (hK (.exit id) st a w r h)
 |ret=>exact fun _ st K a w Q h r hK=>wp_ret (hK .ret st a w r h)
 |_=>nofun
theorem yHh {a b}(h:Uo a b=true):a=b:=by
 cases a<;>cases b<;>first|rfl|(cases h)|skip
 rw[Nat.eq_of_beq_eq_true h]
theorem yZn {a w st e}(r:vV false na nt a0 M0 w0 st a w):∀{l x},JD pre l e st=some x→(Bu (pre+iw) l x).1=e∧vV false na nt a0 M0 w0 (Bu (pre+iw) l x).2 a w
 |[p],x,h=>by
  obtain⟨he,h⟩:=nR h;exact⟨yHh he,Pp r h⟩
 |p::q::l,x,h=>by
  unfold JD at h;split at h
  ·rename_i d hd;cases h;obtain⟨he,hd⟩:=nR hd;exact⟨yHh he,Pp r hd⟩
  ·split at h
   ·rename_i d hd;cases h;exact yZn r (l:=q::l) hd
   ·cases h
theorem vW6 (hE:gy E)(hS:kb E.sums)(hm:E.P.follows .mixedOrders=true){b ins outs}(hL:wN E.P A pre na nt b){X} mQ elim (hX:∀o R K,elim (pre+iw) (mQ o) R K=DY (pre+iw) outs o K)
  (rec:Nat→Nat→rU ins→Option X) (h0:∀k d,rec k 0 d=none)
  (aI:∀k n d,rec k (n+1) d=OH (pre+iw) ins d fun st=>kD E A k pre na nt b st (yKl pre ins outs mQ (rec k n))):zU E.P pre na nt b ⟨ins,outs,X,fun k d=>rec k k d,elim⟩:=by
 intro k d x hx a0 M0 w0 a w Q r hQ;refine vJh (fun n a w=>∃d,vV false na nt a0 M0 w0 (Kj (pre+iw) ins d) a w∧rec k n d=some x) (fun n a w ⟨d,r,hi⟩=>?_) ⟨d,r,hx⟩;cases n with
 |zero=>simp_all
 |succ n=>
  rw[aI k n d] at hi;refine yHi hE hS hm (by simp) b hL _ _ a w _ (vDk hi) r fun e bJ a' w' r' h'=>?_
  have out:∀e,(match JD pre outs e bJ with|some o=>some (mQ o)|none=>none)=some x→Q e.toExit a' w':=fun e h'=>by
   split at h'
   ·rename_i o ho;obtain⟨h1,h2⟩:=yZn (pre:=pre) r' ho;grind
   ·cases h'
  cases e with
  |normal=>
   have h':(match DX pre ins bJ with|some d=>rec k n d|none=>none)=some x:=h';split at h'
   ·rename_i d' hd;exact⟨n,by simp,d',WC r' hd,h'⟩
   ·cases h'
  |ret=>exact out .ret h'
  |exit id=>exact out (.exit id) h'
theorem WG fn tmps:results fn tmps=(do let vs←fn.results.mapM (Pq tmps);pure (if h:vs.size=1 then vs[0] else .tuple vs)):=rfl
theorem WH (hE:gy E)(hS:kb E.sums)(hm:E.P.follows .mixedOrders=true){st}{a:Act}{w x v M}(hM:M.h=st.h)(hH:M.H=w.heap)(ok:Ok M)(ht:∀t,zX M (st.t t) (a.tmps.getD t undef))(h:xc E st x=some v):
  ∃rv,(Pq a.tmps x).run E.P w=.ok rv w∧zX M v rv:=by
 unfold xc at h;split at h
 ·rename_i t;cases h;exact⟨_,rfl,ht t⟩
 ·rename_i c t;split at h
  ·rename_i id off hc;split at h
   ·split at h
    ·rename_i vs eZ;have hv:=ht c;rw[hc] at hv;obtain⟨C,B,hC,hB,e⟩:=hv;obtain⟨C',aF,hO⟩:=ok.obj id _ (by rw[hM];omega);rw[hC] at aF;cases aF;obtain⟨B',fB,aH⟩:=vIw hO;rw[hB] at fB;cases fB;obtain⟨rv2,nQ,dv⟩:∃rv,(loadVar t ⟨B,0+off,none⟩).run E.P w=.ok rv w∧zX M v rv:=vE2 ok hH aH eZ h;refine⟨rv2,?_,dv⟩;simp  at nQ;unfold Pq;dsimp only;rw[e];simp[asAddr,nQ]
    ·cases h
   ·cases h
  ·cases h
theorem vQu {M v p rv}(h:DZ v=some p)(hv:zX M v rv):xd M p rv:=by
 unfold DZ at h;split at h
 ·cases h;exact hv
 ·cases h;exact hv
 ·cases h
theorem yLn {M}:∀{vs xs rs},zP (fun a b=>DZ a=some b) vs xs→zP (zX M) vs rs→zP (xd M) xs rs
 |[],[],[],_,_=>trivial
 |_::_,_::_,_::_,h,k=>⟨vQu h.1 k.1,yLn h.2 k.2⟩
theorem yZb {st}:∀(l:List ResultVar) xs,l.mapM (fun r=>(xc E st r).bind DZ)=some xs→∃vs,l.mapM (xc E st)=some vs∧vs.mapM DZ=some xs
 |[],xs,h=>by simp_all
 |x::l,xs,h=>by
  simp only[List.mapM_cons,Option.bind_eq_bind,Option.bind_eq_some_iff] at h;obtain⟨p,⟨v,h1,h2⟩,ps,h3,h4⟩:=h;obtain⟨vs,k1,k2⟩:=yZb l ps h3;simp_all
theorem WI (hE:gy E)(hS:kb E.sums)(hm:E.P.follows .mixedOrders=true){fn st}{a:Act}{w v M}(hM:M.h=st.h)(hH:M.H=w.heap)(ok:Ok M)(ht:∀t,zX M (st.t t) (a.tmps.getD t undef))(h:OJ E fn st=some v):
  ∃rv,(results fn a.tmps).run E.P w=.ok rv w∧zX M v rv:=by
 have one:=fun x v=>WH hE hS hm (x:=x) (v:=v) hM hH ok ht
 have key:∀(l:List ResultVar) (vs:List zY),l.mapM (xc E st)=some vs→∃rs:List Value,(l.mapM (Pq a.tmps)).run E.P w=.ok rs w∧zP (zX M) vs rs:=by
  intro l
  induction l with
  |nil=>exact fun vs h=>by simp at h;subst h;exact⟨[],rfl,trivial⟩
  |cons x l ih=>
   intro vs h;simp[Option.bind_eq_some_iff] at h;obtain⟨v,h1,U1,h2,h3⟩:=h;cases h3;obtain⟨rv,k1,k2⟩:=one x v h1;obtain⟨rs,k3,k4⟩:=ih U1 h2;refine⟨rv::rs,?_,k2,k4⟩;simp_all
 have run:∀(vs:List zY),fn.results.toList.mapM (xc E st)=some vs→∃rs:List Value,(results fn a.tmps).run E.P w=.ok (if h:rs.length=1 then rs[0] else .tuple rs.toArray) w∧zP (zX M) vs rs:=fun vs h=>by
  obtain⟨rs,k1,k2⟩:=key _ vs h;refine⟨rs,?_,k2⟩;rw[WG,Array.mapM_eq_mapM_toList];simp_all
 unfold OJ at h;split at h
 ·cases h;obtain⟨rs,k1,k2⟩:=run [] (by simp_all);cases rs with
  |cons _ _=>exact k2.elim
  |nil=>exact⟨_,k1,#[],rfl,trivial⟩
 ·obtain⟨rs,k1,k2⟩:=run [v] (by simp_all)
  match rs,k2 with
  |[r],k2=>exact⟨_,k1,k2.1⟩
 ·split at h
  ·rename_i xs J7;cases h;obtain⟨vs,k1,k2⟩:=yZb _ _ J7;obtain⟨rs,r1,r2⟩:=run vs k1;have hlen:rs.length≠1:=fun e=>by
    have e1:=r2.length;have e2:=(J6 _ _ _ k1).length;have h3:fn.results.toList.length=1:=by omega
    match hl:fn.results.toList,h3 with
    |[x],_=>simp_all
   rw[dif_neg hlen] at r1;exact⟨_,r1,rs.toArray,rfl,yLn (J6 _ _ _ k2) r2⟩
  ·cases h
theorem WJ (hE:gy E)(hS:kb E.sums)(hm:E.P.follows .mixedOrders=true){f fn}(hf:E.P.funcs[f]? =some fn)(hL:∀c,fn.body=some c→wN E.P A pre na fn.ntmps c){args h K}(aV:kE E A k pre na fn args h K=some out){M w vs}(hh:M.h=h)(hH:M.H=w.heap)(ok:Ok M)
  (hv:zP (zX M) args vs.toList):Calls E.P f vs w fun
   |.returned rv,w'=>∃(M':zL) (v:zY) (st:St),K v st=some out∧M'.h=st.h∧M'.H=w'.heap∧Ok M'∧ke M M'∧(A.loops=[]→Ph M M')∧zX M' v rv∧w'.os=w.os∧w'.tape=w.tape∧w'.output=w.output∧
     (∀t,t<na→zX M' (st.t t) (vs.getD t undef))
   |_,_=>False:=by
 unfold kE at aV;cases hb:fn.body with
 |none=>simp_all
 |some c=>
  rw[hb] at aV;dsimp only at aV;cases hle:Nat.ble args.length fn.ntmps with
  |false=>simp_all
  |true=>
   rw[hle] at aV;rw[cond_true] at aV;have hl:=hv.length;have hle:args.length≤fn.ntmps:=Nat.le_of_ble_eq_true hle;have dH:vs.size≤fn.ntmps:=by simp at hl;omega
   have Kk:∀t,zX M (OK args t) ((vs++Array.replicate (fn.ntmps-vs.size) undef).getD t undef):=fun t=>by
    unfold OK;by_cases ht:t<args.length
    ·have WK:t<vs.size:=by simp at hl;omega
     have:=hv.get t ht (by simpa using WK);simp only[List.getD_eq_getElem?_getD,List.getElem?_eq_getElem ht,Option.getD_some];simp only[Array.getD_eq_getD_getElem?,Array.getElem?_append_left WK,Array.getElem?_eq_getElem WK,Option.getD_some]
     simpa using this
    ·simp only[List.getD_eq_getElem?_getD,List.getElem?_eq_none (Nat.not_lt.1 ht),Option.getD_none];show _=undef;simp;grind
   have r:vV A.loops.isEmpty na fn.ntmps (fun t=>(vs++Array.replicate (fn.ntmps-vs.size) undef).getD t undef) M w {t:=OK args,h:=h} {tmps:=vs++Array.replicate (fn.ntmps-vs.size) undef,defers:=[]} w:=
    ⟨⟨M,hh,hH,ok,⟨.refl M,fun _ _ C h=>⟨C,h,rfl⟩⟩,Kk⟩,rfl,by simp;omega,rfl,rfl,rfl,fun _ _=>rfl⟩
   refine calls_of_wp hf hb (yHi hE hS hm (by simp) c (hL c hb) _ _ _ _ _ aV r fun e bJ a' w' r' hK=>?_);obtain⟨M',q1,q2,q3,q4,q5⟩:=r'.ex;have fin:∀v,OJ E fn bJ=some v→K v bJ=some out→a'.defers=[]∧∃rv,(results fn a'.tmps).run E.P w'=.ok rv w'∧∃(M':zL) (v:zY) (st:St),K v st=some out∧M'.h=st.h∧M'.H=w'.heap∧Ok M'∧ke M M'∧(A.loops=[]→Ph M M')∧zX M' v rv∧w'.os=w.os∧w'.tape=w.tape∧w'.output=w.output∧
     (∀t,t<na→zX M' (st.t t) (vs.getD t undef)):=fun v kN hK=>by
    obtain⟨rv,k1,k2⟩:=WI hE hS hm q1 q2 q3 q5 kN;refine⟨r'.defers,rv,k1,M',v,bJ,hK,q1,q2,q3,q4.g,fun h=>q4.k (by grind),k2,r'.os,r'.tape,r'.output,fun t ht=>?_⟩;have:=q5 t;rw[r'.keep t ht] at this;have e:(vs++Array.replicate (fn.ntmps-vs.size) undef).getD t undef=vs.getD t undef:=by
     by_cases h1:t<vs.size
     ·simp[Array.getD_eq_getD_getElem?,Array.getElem?_append_left h1]
     ·simp;grind
    simp_all
   cases e with
   |exit id=>cases hK
   |normal=>
    dsimp only at hK;split at hK
    ·rename_i v kN;exact fin v kN hK
    ·cases hK
   |ret=>
    dsimp only at hK;split at hK
    ·rename_i v kN;exact fin v kN hK
    ·cases hK
end
inductive PC where
 |int (k:IntKind)|bool|dat (sh:Bool) (t:Ty)|fn (f:Nat)
 |nil|nilp
abbrev PC.den:PC→Type
 |.int _=>Int|.bool=>Bool|.dat _ t=>List t.den|.fn _=>Unit|.nil=>Unit|.nilp=>Unit
abbrev PL:List PC→Type
 |[]=>Unit
 |p::l=>p.den×PL l
inductive AS where
 |c (p:PC)|agg (l:List PC)|ptr (l:List PC)|fn (f:Nat) (bA:List (List PC))
def AS.cells:AS→List PC
 |.c p=>[p]
 |.agg l=>l
 |.ptr l=>l
 |.fn _ bA=>bA.flatten
abbrev AD (l:List AS):Type:=PL (l.flatMap AS.cells)
def Bv (h:Hp)(t:Ty):qC→Option (List t.den)
 |.nsl=>some []
 |c=>match kC h c with
  |some ⟨s,xs⟩=>im s t xs
  |none=>none
def um (h:Hp):(p:PC)→qC→Option p.den
 |.int k,.int j n=>bif gq j k then some n else none
 |.bool,.bool b=>some b
 |.dat false t,c=>Bv h t c
 |.dat true t,.fsl true s xs=>im s t xs
 |.dat true t,.nsl=>some []
 |.fn f,.fn g []=>bif Nat.beq f g then some () else none
 |.nil,.nsl=>some ()
 |.nilp,.nilp=>some ()
 |_,_=>none
def Bw (h:Hp):(l:List PC)→List qC→Option (PL l)
 |[],[]=>some ()
 |p::l,c::cs=>match um h p c,Bw h l cs with
  |some d,some ds=>some (d,ds)
  |_,_=>none
 |_,_=>none
def Ez (h:Hp)(id:Nat):Option (List qC):=match h id with
 |some (.box _ cells)=>some cells
 |some (.robox cells)=>some cells
 |_=>none
def uo (h:Hp):List (List PC)→List Nat→Option (List qC)
 |[],[]=>some []
 |l::ls,id::ids=>match Ez h id,uo h ls ids with
  |some cells,some rest=>bif Nat.beq cells.length l.length then some (cells++rest) else none
  |_,_=>none
 |_,_=>none
def AS.get (h:Hp):AS→zY→Option (List qC)
 |.c _,.c x=>some [x]
 |.agg l,.agg xs=>bif Nat.beq xs.length l.length then some xs else none
 |.ptr l,.c (.ptr id 0)=>uo h [l] [id]
 |.fn f bA,.c (.fn g ids)=>bif Nat.beq f g then uo h bA ids else none
 |_,_=>none
def sv (h:Hp):List AS→List zY→Option (List qC)
 |[],[]=>some []
 |s::l,a::as=>match s.get h a,sv h l as with
  |some cs,some rest=>some (cs++rest)
  |_,_=>none
 |_,_=>none
def Bx (h:Hp) l (as:List zY):Option (AD l):=match sv h l as with
 |some cs=>Bw h (l.flatMap AS.cells) cs
 |none=>none
def EA:(p:PC)→p.den→qC
 |.int k,n=>.int k n
 |.bool,b=>.bool b
 |.dat sh t,xs=>.fsl sh t xs
 |.fn f,_=>.fn f []
 |.nil,_=>.nsl
 |.nilp,_=>.nilp
def wB:(l:List PC)→PL l→List qC
 |[],_=>[]
 |p::l,d=>EA p d.1::wB l d.2
def Pr:List (List PC)→List qC→List (List qC)
 |[],_=>[]
 |l::ls,cs=>cs.take l.length::Pr ls (cs.drop l.length)
def AS.mk (n:Nat)(cs:List qC):AS→zY
 |.c _=>match cs with|x::_=>.c x|[]=>.undef
 |.agg _=>.agg cs
 |.ptr _=>.c (.ptr n 0)
 |.fn f bA=>.c (.fn f ((List.range bA.length).map (n+·)))
def AS.boxes (cs:List qC):AS→List (List qC)
 |.ptr _=>[cs]
 |.fn _ bA=>Pr bA cs
 |_=>[]
def mi:List AS→List qC→Nat→List zY×List (List qC)
 |[],_,_=>([],[])
 |s::l,cs,n=>
  let aq:=cs.take s.cells.length;let bs:=s.boxes aq;let rest:=mi l (cs.drop s.cells.length) (n+bs.length)
  (s.mk n aq::rest.1,bs++rest.2)
def mj (bs:List (List qC)):Hp:=fun n=>match bs[n]? with
 |some cells=>some (.robox cells)
 |none=>none
def pY l (d:AD l):List zY×Hp:=
 let r:=mi l (wB (l.flatMap AS.cells) d) 0
 (r.1,mj r.2)
inductive RC where
 |int (k:IntKind)|bool|fro (t:Ty)|own (t:Ty)|mat
 |jun
 |map
 |nilp|link (j:Nat)|nil
abbrev RC.den:RC→Type
 |.int _=>Int|.bool=>Bool|.fro t=>List t.den|.own t=>List t.den|.mat=>List (List Int)|.jun=>Nat|.map=>List (Int×Bool)|.nilp=>Unit|.link _=>Unit|.nil=>Unit
abbrev RL:List RC→Type
 |[]=>Unit
 |r::l=>r.den×RL l
inductive RS where
 |c (r:RC)|agg (l:List RC)|tup (l:List (Bool×List RC))
def RS.cells:RS→List RC
 |.c r=>[r]
 |.agg l=>l
 |.tup l=>l.flatMap (·.2)
def WL:List (Bool×List RC)→List (Bool×List qC)→Option (List qC)
 |[],[]=>some []
 | (b, l) :: ls, (g, cs) :: rest => bif (bif b then g else !g && Nat.beq cs.length 1) && Nat.beq cs.length l.length then (match WL ls rest with
   |some r=>some (cs++r)
   |none=>none) else none
 |_,_=>none
def RS.get:RS→zY→Option (List qC)
 |.c _,.c x=>some [x]
 |.agg l,.agg xs=>bif Nat.beq xs.length l.length then some xs else none
 |.tup l,.tup xs=>WL l xs
 |_,_=>none
def WM:List (Bool×List RC)→List qC→List (Bool×List qC)
 |[],_=>[]
 |(b,l)::ls,cs=>(b,cs.take l.length)::WM ls (cs.drop l.length)
def RS.mk (cs:List qC):RS→zY
 |.c _=>match cs with|x::_=>.c x|[]=>.undef
 |.agg _=>.agg cs
 |.tup l=>.tup (WM l cs)
def gA (h:Hp):List Bool→List qC→Option (List qC×vG)
 |true::l,c::cs=>match oP h c,gA h l cs with
  |some (c,u),some (cs,us)=>some (c::cs,u++us)
  |_,_=>none
 |false::l,c::cs=>match gA h l cs with
  |some (cs,us)=>some (c::cs,us)
  |none=>none
 |_,cs=>some (cs,[])
def RC.isFro:RC→Bool
 |.fro _=>true
 |_=>false
def PC.isKept:PC→Bool
 |.dat true _=>true
 |_=>false
def pZ (h:Hp):(r:RC)→qC→Option r.den
 |.int k,.int j n=>bif gq j k then some n else none
 |.bool,.bool b=>some b
 |.fro t,.fsl true s xs=>im s t xs
 |.fro t,.nsl=>some []
 |.own t,.osl id none=>match h id with
  |some (.arr true s xs)=>im s t xs
  |_=>none
 |.own t,.osl id (some (0,n))=>match h id with
  |some (.arr true s xs)=>im s t (xs.take n)
  |_=>none
 |.own t,.nsl=>some []
 |.mat,.osl id none=>match h id with
  |some (.mat _ xs)=>some xs
  |some (.pmat _ xs n)=>bif Nat.beq xs.length n then some xs else none
  |_=>none
 |.mat,.nsl=>some []
 |.jun,.osl id none=>match h id with
  |some (.arr true (.sl (.int .i64)) xs)=>some xs.length
  |_=>none
 |.jun,.nsl=>some 0
 |.map,.map id=>match h id with
  |some (.imap df)=>some df
  |_=>none
 |.nilp,.nilp=>some ()
 |.link _,.ptr _ 0=>some ()
 |.nil,.nsl=>some ()
 |_,_=>none
def kO (h:Hp):(l:List RC)→List qC→Option (RL l)
 |[],[]=>some ()
 |r::l,c::cs=>match pZ h r c,kO h l cs with
  |some d,some ds=>some (d,ds)
  |_,_=>none
 |_,_=>none
def wL:List RC→List qC→List Nat
 |.own _::l,.osl id _::cs=>id::wL l cs
 |.mat::l,.osl id _::cs=>id::wL l cs
 |.jun::l,.osl id _::cs=>id::wL l cs
 |.map::l,.map id::cs=>id::wL l cs
 |_::l,_::cs=>wL l cs
 |_,_=>[]
def Kl (h:Hp)(s:RS)(v:zY):Option (RL s.cells):=match s.get v with
 |some cs=>match gA h (s.cells.map RC.isFro) cs with
  |some (cs,u)=>bif tM (wL s.cells cs) then kO (qJ h u) s.cells cs else none
  |none=>none
 |none=>none
def nc (rs:RS){X:Type}(unpack:RL rs.cells→X)(v:zY)(st:St):Option X:=match Kl st.h rs v with
 |some d=>some (unpack d)
 |none=>none
def sw (nm:Nat):(r:RC)→r.den→qC×vG
 |.int k,n=>(.int k n,[])
 |.bool,b=>(.bool b,[])
 |.fro t,xs=>(.fsl true t xs,[])
 |.own t,xs=>(.osl nm none,[(nm,.arr true t xs)])
 |.mat,xs=>(.osl nm none,[(nm,.mat 0 xs)])
 |.jun,n=>(.osl nm none,[(nm,.pmat 0 [] n)])
 |.map,df=>(.map nm,[(nm,.imap df)])
 |.nilp,_=>(.nilp,[])
 |.link _,_=>(.undef,[])
 |.nil,_=>(.nsl,[])
def oZ (nm:Nat):(l:List RC)→RL l→List qC×vG
 |[],_=>([],[])
 |r::l,d=>
  let x:=sw nm r d.1;let y:=oZ (nm+1) l d.2
  (x.1::y.1,x.2++y.2)
def vG0 (nm:Nat)(s:RS)(d:RL s.cells):zY×vG:=
 let r:=oZ nm s.cells d
 (s.mk r.1,r.2)
def xp (h:Hp):Nat→Nat→Bool
 |_,0=>true
 |nm,n+1=>(match h nm with|none=>true|some _=>false)&&xp h (nm+1) n
def xq (h:Hp):AS→zY→Option (zY×vG)
 |.c p,.c x=>match gA h [p.isKept] [x] with
  |some ([x],u)=>some (.c x,u)
  |_=>none
 |.agg l,.agg xs=>match gA h (l.map PC.isKept) xs with
  |some (xs,u)=>some (.agg xs,u)
  |none=>none
 |_,a=>some (a,[])
def sA (h:Hp):List AS→List zY→Option (List zY×vG)
 |s::l,a::as=>match xq h s a,sA h l as with
  |some (a,u),some (as,us)=>some (a::as,u++us)
  |_,_=>none
 |_,as=>some (as,[])
def o6 as (rs:RS){X}(S:AD as→Option X)(pack:X→RL rs.cells)(nm:Nat)(args:List zY)(h:Hp):yW:=
 match sA h as args with
 |none=>.stuck
 |some (args,u)=>match Bx (qJ h u) as args with
  |some d=>bif xp h nm rs.cells.length&&Nat.ble rs.cells.length 100 then .call X (S d) (fun r=>((vG0 nm rs (pack r)).1,u++(vG0 nm rs (pack r)).2)) else .stuck
  |none=>.stuck
structure Lo (M Ml:zL):Prop where
 H:Ml.H=M.H
 F:Ml.F=fun b=>b<M.H.size
 G:Ml.G=M.G
theorem WN {M M':zL}(ok:Ok M')(hH:M'.H=M.H){t}{xs:List t.den}{v}(h:qF M'.H M'.G (.sl t) xs (fun _=>some v)):qF M.H (fun b=>b<M.H.size) (.sl t) xs (fun _=>some v):=by
 refine vD (fun b hb=>?_) (by grind) _ _ _ _ (by simp) h;have:=ok.Flt b (ok.GF b hb);simp_all
theorem vTs {M}(ok:Ok M){c v t xs}(hv:zZ M c v)(h:kC M.h c=some ⟨t,xs⟩):qF M.H (fun b=>b<M.H.size) (.sl t) xs (fun _=>some v):=by
 unfold kC at h;split at h
 ·rename_i sh s ys;cases h;cases sh with
  |true=>exact vD (fun b hb=>ok.Flt b (ok.GF b hb)) (by simp) _ _ _ _ (fun _ _=>rfl) hv
  |false=>exact vD (fun b hb=>ok.Flt b hb) (by simp) _ _ _ _ (fun _ _=>rfl) hv
 ·rename_i id r;split at h
  ·rename_i own s ys an;cases h;cases own with
   |false=>
    obtain⟨C,hC,hO⟩:=ok.obj _ _ an;exact WN ok rfl (A4 hC hO hv)
   |true=>
    obtain⟨M',h1,h2,h3,h4⟩:=vD8 ok an;obtain⟨C,hC,hO⟩:=h3.obj id _ (by rw[h2];exact yV _ _ _);exact WN h3 h1 (A4 hC hO (hv.ext h4.ext))
  ·rename_i ver ys an;cases r with
   |some p=>cases h
   |none=>
    cases h;obtain⟨M',h1,h2,h3,h4⟩:=yXi ok an;obtain⟨C,hC,hO⟩:=h3.obj id _ (by rw[h2];exact yV _ _ _);exact WN h3 h1 (A4 (r:=none) hC hO (hv.ext h4.ext))
  ·cases h
 ·rename_i id i ver;split at h
  ·rename_i v' ys an;cases fS:Nat.beq v' ver with
   |false=>simp_all
   |true=>
    rw[fS] at h;cases h;have e:v'=ver:=by simpa using fS
    subst e;obtain⟨C,hC,hO⟩:=ok.obj _ _ an;obtain⟨C',aF,bR,_,aT⟩:=hv;rw[hC] at aF;cases aF;obtain⟨rb,rl,xj,so⟩:=aT hO.1;by_cases hi:i<ys.length
    ·obtain⟨B,pP,v2,k1,k2,k3,k4,k5,k6⟩:=D7 hO hi;rw[xj] at k3;cases k3;rw[show ys.getD i []=ys[i] by simp_all];simp only[qF];cases rb with
     |none=>
      obtain⟨rfl,h0⟩:=so;grind
     |some R=>
      obtain⟨a,c,rfl,h1,h2,h3⟩:=so;refine⟨_,_,c,rfl,rfl,h1,?_⟩;by_cases h0:ys[i].length=0
      ·simp_all
      ·have ha:a=0:=by omega
       subst ha;refine .inr ⟨R,0,rfl,?_,fun j hj=>?_⟩
       ·have:=k6 R rfl 0 (by omega);unfold yX at this;grind
       ·simp only[Ty.size];simp_all
    ·have:C.rows[i]? =none:=List.getElem?_eq_none (by have:=hO.2.2.2.1;omega);simp_all
  ·cases h
 ·cases h
theorem Km {H F t}:qF H F (.sl t) ([]:List t.den) (fun _=>some (.slice none 0 0)):=⟨none,0,0,rfl,rfl,by simp,by simp⟩
theorem WO {M}(ok:Ok M){c v t xs}(hv:zZ M c v)(h:Bv M.h t c=some xs):qF M.H (fun b=>b<M.H.size) (.sl t) xs (fun _=>some v):=by
 unfold Bv at h;split at h
 ·cases h;rw[show v=.slice none 0 0 from hv];exact Km
 ·split at h
  ·rename_i s ys hr;obtain⟨e,hx⟩:=lA h;subst e;subst hx;exact vTs ok hv hr
  ·cases h
def Tr (M:zL)(c c':qC):Prop:=∀v Ml,Lo M Ml→zZ M c v→zZ Ml c' v
theorem WQ {M}(ok:Ok M){p c d}(h:um M.h p c=some d):Tr M c (EA p d):=by
 intro v Ml lo hv;unfold um at h;split at h
 ·rename_i k j n;cases e:gq j k with
  |false=>simp_all
  |true=>rw[e] at h;cases h;rw[←tI e];exact hv
 ·cases h;exact hv
 ·have:=WO ok hv h;show qF Ml.H Ml.F _ _ _;rw[lo.H,lo.F];omega
 ·obtain⟨e,hx⟩:=lA h;subst e;subst hx;show qF Ml.H Ml.G _ _ _;rw[lo.H,lo.G];exact hv
 ·cases h;rw[show v=.slice none 0 0 from hv];exact Km
 ·rename_i f g;cases e:Nat.beq f g with
  |false=>simp_all
  |true=>
   have:f=g:=by simp_all
   subst this;obtain⟨cv,rfl,hc⟩:=hv;refine⟨cv,rfl,?_⟩;generalize cv.toList=l at hc;cases l with
   |nil=>trivial
   |cons _ _=>exact hc.elim
 ·exact hv
 ·exact hv
 ·cases h
theorem vGo {M}(ok:Ok M):∀{l cs d},Bw M.h l cs=some d→zP (Tr M) cs (wB l d)
 |[],[],_,_=>trivial
 |p::l,c::cs,d,h=>by
  unfold Bw at h;split at h
  ·rename_i x xs h1 h2;cases h;exact⟨WQ ok h1,vGo ok h2⟩
  ·cases h
theorem WR {M Ml}(lo:Lo M Ml):∀{cs aS vs},zP (Tr M) cs aS→zP (zZ M) cs vs→zP (zZ Ml) aS vs
 |[],[],[],_,_=>trivial
 |_::_,_::_,_::_,h,k=>⟨h.1 _ _ lo k.1,WR lo h.2 k.2⟩
def xr (M:zL)(C:qE)(cells:List qC):Prop:=∃B vals e,C.blk=some B∧C.rows=[]∧M.H[B]? =some (.cells vals e (0,0))∧zP (zZ M) cells vals.toList
theorem yQn {M}(ok:Ok M){id cells}(h:Ez M.h id=some cells):∃C,M.κ id=some C∧xr M C cells:=by
 unfold Ez at h;split at h
 ·rename_i own cs an;cases h;obtain⟨C,hC,B,vals,e,h1,h2,h3,h4,_⟩:=ok.obj id _ an;exact⟨C,hC,B,vals,e,h1,h2,h3,h4⟩
 ·rename_i cs an;cases h;obtain⟨C,hC,B,vals,e,h1,h2,h3,h4,_⟩:=ok.obj id _ an;exact⟨C,hC,B,vals,e,h1,h2,h3,h4⟩
 ·cases h
theorem xr.tr {M Ml}(lo:Lo M Ml){C cs aS}(h:xr M C cs)(ht:zP (Tr M) cs aS):xr Ml C aS:=by
 obtain⟨B,vals,e,h1,h2,h3,h4⟩:=h;exact⟨B,vals,e,h1,h2,by rw[lo.H];exact h3,WR lo ht h4⟩
theorem WS {M}(ok:Ok M):∀{ls ids cs aS},uo M.h ls ids=some cs→zP (Tr M) cs aS→cs.length=ls.flatten.length∧ids.length=ls.length∧
  ∃Cs:List qE,zP (fun id C=>M.κ id=some C) ids Cs∧∀Ml,Lo M Ml→zP (xr Ml) Cs (Pr ls aS)
 |[],[],cs,aS,h,ht=>by cases h;exact⟨rfl,rfl,[],trivial,fun _ _=>trivial⟩
 |l::ls,id::ids,cs,aS,h,ht=>by
  unfold uo at h;split at h
  ·rename_i cells rest h1 h2;obtain⟨hl,h⟩:cells.length=l.length∧cells++rest=cs:=by
    cases e:Nat.beq cells.length l.length with
    |false=>simp_all
    |true=>simp_all
   subst h;have o9:=zP.take l.length ht;have nS:=zP.drop l.length ht;rw[←hl,List.take_left] at o9;rw[←hl,List.drop_left] at nS;obtain⟨C,hC,hB⟩:=yQn ok h1;obtain⟨k1,k2,Cs,k3,k4⟩:=WS ok h2 nS;refine⟨by simp_all,by simp[k2],C::Cs,⟨hC,k3⟩,fun Ml lo=>⟨?_,?_⟩⟩
   ·rw[←hl];exact hB.tr lo o9
   simp_all
  ·cases h
theorem WT {M}(ok:Ok M){s:AS}{a v cs aS n}(hv:zX M a v)(h:s.get M.h a=some cs)(ht:zP (Tr M) cs aS):
  ∃Cs:List qE,(∀Ml,Lo M Ml→zP (xr Ml) Cs (s.boxes aS))∧(∀Ml,Lo M Ml→(∀i C,Cs[i]? =some C→Ml.κ (n+i)=some C)→zX Ml (s.mk n aS) v):=by
 unfold AS.get at h;split at h
 ·cases h
  match aS,ht with
  |[c'],ht=>exact⟨[],fun _ _=>trivial,fun Ml lo _=>ht.1 v Ml lo hv⟩
 ·rename_i l xs;cases e:Nat.beq xs.length l.length with
  |false=>simp_all
  |true=>
   rw[e] at h;cases h;obtain⟨vs,rfl,hx⟩:=hv;exact⟨[],fun _ _=>trivial,fun Ml lo _=>⟨vs,rfl,WR lo ht hx⟩⟩
 ·rename_i l id;have:=WS ok h ht;obtain⟨k1,k2,Cs,k3,k4⟩:=this;obtain⟨C,B,hC,hB,e⟩:=hv;have hl:aS.length=l.length:=by rw[←ht.length,k1];simp
  match Cs,k3 with
  |[C'],k3=>
   have e':C'=C:=by
    have:M.κ id=some C':=k3.1;simp_all
   subst e';refine⟨[C'],fun Ml lo=>?_,fun Ml lo hκ=>⟨C',B,hκ 0 C' rfl,hB,e⟩⟩;have:=k4 Ml lo;simp[Pr] at this;rw[List.take_of_length_le (by omega)] at this;exact this
 ·rename_i f bA g ids;cases e:Nat.beq f g with
  |false=>simp_all
  |true=>
   rw[e] at h;have WU:f=g:=by simp_all
   subst WU;obtain⟨k1,k2,Cs,k3,k4⟩:=WS ok h ht;refine⟨Cs,k4,fun Ml lo hκ=>?_⟩;obtain⟨cv,rfl,hc⟩:=hv;refine⟨cv,rfl,?_⟩;have l1:=k3.length;have l2:=hc.length;refine zP.of_get (by simp_all) fun i h1 h2=>?_
   simp;have hi:i<ids.length:=by omega
   have bI:i<Cs.length:=by omega
   obtain⟨C,B,q1,q2,q3⟩:=hc.get i hi h2;have q4:=k3.get i hi bI;simp_all
 ·cases h
theorem WV {h}:∀{ls ids cs},uo h ls ids=some cs→cs.length=ls.flatten.length
 |[],[],cs,e=>by cases e;rfl
 |l::ls,id::ids,cs,e=>by
  unfold uo at e;split at e
  ·rename_i cells rest h1 h2;cases el:Nat.beq cells.length l.length with
   |false=>simp_all
   |true=>
    rw[el] at e;cases e;have:cells.length=l.length:=by simp_all
    simp[this,WV h2]
  ·cases e
theorem WW {h}{s:AS}{a cs}(e:s.get h a=some cs):cs.length=s.cells.length:=by
 unfold AS.get at e;split at e
 ·cases e;rfl
 ·rename_i l xs;cases el:Nat.beq xs.length l.length with
  |false=>simp_all
  |true=>rw[el] at e;cases e;exact Nat.eq_of_beq_eq_true el
 ·rw[WV e];simp[AS.cells]
 ·rename_i f bA g ids;cases el:Nat.beq f g with
  |false=>simp_all
  |true=>rw[el] at e;exact WV e
 ·cases e
theorem vDs {M}(ok:Ok M):∀{l as vs cs aS n},zP (zX M) as vs→sv M.h l as=some cs→zP (Tr M) cs aS→
  ∃Cs:List qE,(∀Ml,Lo M Ml→zP (xr Ml) Cs (mi l aS n).2)∧(∀Ml,Lo M Ml→(∀i C,Cs[i]? =some C→Ml.κ (n+i)=some C)→zP (zX Ml) (mi l aS n).1 vs)
 |[],[],[],cs,aS,n,_,_,_=>⟨[],fun _ _=>trivial,fun _ _ _=>trivial⟩
 |s::l,a::as,v::vs,cs,aS,n,hv,h,ht=>by
  unfold sv at h;split at h
  ·rename_i mX rest h1 h2;cases h;have hl:=WW h1;have o9:=zP.take s.cells.length ht;have nS:=zP.drop s.cells.length ht;rw[←hl,List.take_left,hl] at o9;rw[←hl,List.drop_left,hl] at nS;obtain⟨C1,k1,k2⟩:=WT ok (n:=n) hv.1 h1 o9;obtain⟨C2,k3,k4⟩:=vDs ok (n:=n+(s.boxes (aS.take s.cells.length)).length) hv.2 h2 nS;refine⟨C1++C2,fun Ml lo=>(k1 Ml lo).append (k3 Ml lo),fun Ml lo hκ=>⟨k2 Ml lo fun i C hi=>hκ i C ?_,k4 Ml lo fun i C hi=>?_⟩⟩
   ·grind
   ·have hb:=(k1 Ml lo).length;have:=hκ (C1.length+i) C (by grind);grind
  ·cases h
def zL.below (M:zL)(Cs:List qE)(bs:List (List qC)):zL:={κ:=fun n=>Cs[n]?,F:=fun b=>b<M.H.size,G:=M.G,h:=mj bs,H:=M.H}
theorem zL.below_lo M Cs bs:Lo M (M.below Cs bs):=⟨rfl,rfl,rfl⟩
theorem zL.below_ok {M}(ok:Ok M){Cs bs}(h:zP (xr (M.below Cs bs)) Cs bs):Ok (M.below Cs bs)∧∀b,¬qN (M.below Cs bs) b:=by
 have hr:∀id o,(M.below Cs bs).h id=some o→∃cells,bs[id]? =some cells∧o=.robox cells:=fun id o e=>by
  have e:mj bs id=some o:=e;unfold mj at e;grind
 have Kn:∀b,¬qN (M.below Cs bs) b:=fun b ⟨id,o,C,h1,h2,_,_⟩=>by
  obtain⟨cells,_,rfl⟩:=hr id o h1;cases h2
 refine⟨⟨fun id o e=>?_,fun id e=>?_,fun i j oi oj Ci Cj b _ h1 _ h3 _ _ _ _ _=>?_,by grind,fun b hb=>ok.Flt b (ok.GF b hb),fun b hb=>hb⟩,Kn⟩
 ·obtain⟨cells,hc,rfl⟩:=hr id o e;have bd:id<bs.length:=by
   grind
  have kF:id<Cs.length:=by rw[h.length];omega
  obtain⟨B,vals,ev,q1,q2,q3,q4⟩:=h.get id kF bd;rw[List.getElem?_eq_getElem bd] at hc;cases hc;refine⟨Cs[id],List.getElem?_eq_getElem kF,B,vals,ev,q1,q2,q3,q4,?_⟩;exact(Array.getElem?_eq_some_iff.1 q3).1
 ·have e:mj bs id=none:=e;unfold mj at e;split at e
  ·cases e
  ·rename_i hc;show Cs[id]? =none;rw[List.getElem?_eq_none_iff] at hc⊢;rw[h.length];exact hc
 ·obtain⟨cells,_,rfl⟩:=hr i oi h1;cases h3
theorem vSb {M}(ok:Ok M){l as vs d}(hv:zP (zX M) as vs)(h:Bx M.h l as=some d):
  ∃Ml:zL,Lo M Ml∧Ml.h=(pY l d).2∧Ok Ml∧(∀b,¬qN Ml b)∧zP (zX Ml) (pY l d).1 vs:=by
 unfold Bx at h;split at h
 ·rename_i cs hg;obtain⟨Cs,h1,h2⟩:=vDs ok (n:=0) hv hg (vGo ok h);have lo:=M.below_lo Cs (mi l (wB (l.flatMap AS.cells) d) 0).2;have:=zL.below_ok ok (h1 _ lo);exact⟨_,lo,rfl,this.1,this.2,h2 _ lo fun i C hi=>by rw[Nat.zero_add];exact hi⟩
 ·cases h
theorem xu {h0}:∀{l cs aS vs u M},Ok M→jG h0 M.h→zP (zZ M) cs vs→gA h0 l cs=some (aS,u)→
  ∃L:zL,L.H=M.H∧L.h=qJ M.h u∧Ok L∧yR M L∧zP (zZ L) aS vs∧jG h0 L.h
 |[],cs,aS,vs,u,M,ok,hf,hc,h=>by
  cases cs<;>cases h<;>exact⟨M,rfl,rfl,ok,.refl M,hc,hf⟩
 |true::l,[],aS,vs,u,M,ok,hf,hc,h
 |false::l,[],aS,vs,u,M,ok,hf,hc,h=>by cases h;exact⟨M,rfl,rfl,ok,.refl M,hc,hf⟩
 |true::l,c::cs,aS,v::vs,u,M,ok,hf,hc,h=>by
  unfold gA at h;split at h
  ·rename_i c1 u1 mX sb e1 e2;cases h;obtain⟨M1,h1,h2,h3,h4,h5,h6,_⟩:=JH ok hf hc.1 e1;obtain⟨M2,k1,k2,k3,k4,k5,k6⟩:=xu h3 h6 (hc.2.mono fun _ _ h=>h.ext h4.ext) e2;exact⟨M2,k1.trans h1,by rw[k2,h2,lz],k3,h4.trans k4,⟨h5.ext k4.ext,k5⟩,k6⟩
  ·cases h
 |false::l,c::cs,aS,v::vs,u,M,ok,hf,hc,h=>by
  unfold gA at h;split at h
  ·rename_i mX sb e2;cases h;obtain⟨M2,k1,k2,k3,k4,k5,k6⟩:=xu ok hf hc.2 e2;exact⟨M2,k1,k2,k3,k4,⟨hc.1.ext k4.ext,k5⟩,k6⟩
  ·cases h
def zL.add (M:zL)(nm:Nat)(o:Obj)(C:qE):zL:={M with κ:=κset M.κ nm C,h:=yM M.h nm o}
theorem zL.add_ok {M}(ok:Ok M){nm}(aU:M.h nm=none){o C}(hO:vA (M.add nm o C) o C)(hb:∀b∈C.fp,¬qN M b∧¬M.F b∧b<M.H.size):
  Ok (M.add nm o C)∧yT M (M.add nm o C)∧(∀b,qN (M.add nm o C) b→qN M b∨b∈C.fp):=by
 have x:yT M (M.add nm o C):=⟨fun id D h=>by
  have bx:id≠nm:=fun e=>by rw[e,ok.non nm aU] at h;cases h
  exact⟨D,by show κset M.κ nm _ id=_;rw[κset_ne _ _ bx];exact h,D.le_refl⟩,fun _ h=>h,fun _ h=>h,fun _ _=>rfl,fun _ _=>rfl,fun _ _=>rfl⟩
 refine⟨Ok.build ok x (fun id=>id=nm) (fun id h=>yY _ _ h) (fun id h=>κset_ne _ _ h) (fun _ _ _ _ _ _ _ _ _=>rfl) (fun id o' D h1 h2 h3 h4 b bg=>(ok.own b ⟨id,o',D,h2,h3,h4,bg⟩).1) (Nat.le_refl _)
  (fun id o' e h=>?_) (fun id e h=>?_) (fun id o' D b e h1 h2 h3 h4=>?_) ok.GF ok.Flt,x,fun b bg=>?_⟩
 ·subst e;have e1:(M.add id o C).h id=some o:=yV _ _ _;rw[e1] at h;cases h;exact⟨_,κset_same _ _ _,hO⟩
 ·have e1:(M.add id o C).h id=some o:=yV _ _ _;simp_all
 ·subst e;have e1:(M.add id o C).κ id=some C:=κset_same _ _ _;rw[e1] at h3;cases h3;obtain⟨k1,k2,k3⟩:=hb b h4;refine⟨fun j oj Cj hj q1 q2 q3 q4=>k1 ⟨j,oj,Cj,?_,q2,?_,q4⟩,k2,k3⟩
  ·rw[←q1];exact(yY _ _ hj).symm
  ·rw[←q3];exact(κset_ne _ _ hj).symm
 ·obtain⟨id,o',D,h1,h2,h3,h4⟩:=bg;by_cases e:id=nm
  ·have e1:(M.add id o C).κ id=some C:=κset_same _ _ _;simp_all
  ·exact .inl ⟨id,o',D,by rw[←h1];exact(yY _ _ e).symm,h2,by rw[←h3];exact(κset_ne _ _ e).symm,h4⟩
structure Up (L Mc:zL):Prop where
 H:Mc.H=L.H
 G:Mc.G=L.G
theorem yN9 {L Mc}(up:Up L Mc){t xs C}(h:vA L (.arr true t xs) C):vA Mc (.arr true t xs) C:=by
 obtain⟨h1,h2,h3,h4⟩:=h;refine⟨h1,h2,h3,?_⟩;rw[up.H,up.G];exact h4
theorem vPf {L Mc}(up:Up L Mc){ver xs C}(h:vA L (.mat ver xs) C):vA Mc (.mat 0 xs) {C with ver:=0}:=by
 obtain⟨h1,h2⟩:=h;refine⟨rfl,?_⟩;rw[up.H];exact h2
theorem vTl {L Mc}(up:Up L Mc){ver n xs C}(h:vA L (.pmat ver xs n) C)(hn:xs.length=n):vA Mc (.mat 0 xs) {C with ver:=0}:=by
 obtain⟨h1,h2,h3,h4,h5,_,h6⟩:=h;refine⟨rfl,by rw[hn];exact h2,h3,h4,h5,?_⟩;rw[up.H];subst hn;simp_all
theorem vPz {L Mc}(up:Up L Mc){xs:List (List Int)}{C}(h:vA L (.arr true (.sl (.int .i64)) xs) C):vA Mc (.pmat 0 [] xs.length) {C with ver:=0}:=by
 obtain⟨h1,h2,h3,h4⟩:=h;have hr:=h3 rfl;refine⟨rfl,h1,h2,by simp_all,?_,by simp,?_⟩
 ·simp[qE.fp];grind
 ·cases hB:C.blk with
  |none=>simp_all
  |some B=>
   rw[hB] at h4;obtain⟨vals,e,h5,_,h7,_⟩:=h4;refine⟨vals,e,by rw[up.H];exact h5,by simpa[Ty.size] using h7,by simp⟩
theorem WX {L Mc}(iU:Ok L)(ok:Ok Mc)(up:Up L Mc){nm}(aU:Mc.h nm=none){r c d}(h:pZ L.h r c=some d)
  (hb:∀id∈wL [r] [c],∀C,L.κ id=some C→∀b∈C.fp,¬qN Mc b∧¬Mc.F b∧b<Mc.H.size):
  ∃eN:zL,eN.H=Mc.H∧eN.G=Mc.G∧eN.F=Mc.F∧eN.h=qJ Mc.h (sw nm r d).2∧Ok eN∧yT Mc eN∧
   (∀b,qN eN b→qN Mc b∨∃id∈wL [r] [c],∃C,L.κ id=some C∧b∈C.fp)∧∀v,zZ L c v→zZ eN (sw nm r d).1 v:=by
 have same : (sw nm r d).2 = [] → (∀ v, zZ L c v → zZ Mc (sw nm r d).1 v) → _ := fun e hv => (⟨Mc,rfl,rfl,rfl,by rw[e];rfl,ok,.refl Mc,by grind,hv⟩:
  ∃eN:zL,eN.H=Mc.H∧eN.G=Mc.G∧eN.F=Mc.F∧eN.h=qJ Mc.h (sw nm r d).2∧Ok eN∧yT Mc eN∧
   (∀b,qN eN b→qN Mc b∨∃id∈wL [r] [c],∃C,L.κ id=some C∧b∈C.fp)∧∀v,zZ L c v→zZ eN (sw nm r d).1 v)
 unfold pZ at h;split at h
 ·rename_i k j n;cases e:gq j k with
  |false=>rw[e] at h;cases h
  |true=>
   rw[e] at h;cases h;exact same rfl fun v hv=>by rw[←tI e];exact hv
 ·cases h;exact same rfl fun v hv=>hv
 ·obtain⟨e,hx⟩:=lA h;subst e;subst hx;refine same rfl fun v hv=>?_
  show qF Mc.H Mc.G _ _ _;rw[up.H,up.G];exact hv
 ·cases h;refine same rfl fun v hv=>?_
  rw[show v=.slice none 0 0 from hv];exact Km
 ·rename_i t id;split at h
  ·rename_i s xs an;obtain⟨e,hx⟩:=lA h;subst e;subst hx;obtain⟨C,hC,hO⟩:=iU.obj id _ an;obtain⟨k1,k2,k3⟩:=zL.add_ok ok aU (o:=.arr true s xs) (C:=C) (yN9 (Mc:=Mc.add nm (.arr true s xs) C) ⟨up.H,up.G⟩ hO) (hb id (by simp[wL]) C hC);refine⟨Mc.add nm (.arr true s xs) C,rfl,rfl,rfl,rfl,k1,k2,fun b bg=>(k3 b bg).imp (fun h=>h) fun h=>⟨id,by simp[wL],C,hC,h⟩,fun v hv=>?_⟩;obtain⟨C',aF,hS⟩:=hv;rw[hC] at aF;cases aF;refine⟨C,κset_same _ _ _,?_⟩;show jE Mc.H C 0 C.len v;rw[up.H];exact hS
  ·cases h
 ·rename_i t id n;split at h
  ·rename_i s xs an;obtain⟨e,hx⟩:=lA h;subst e;subst hx;obtain⟨C,hC,hO⟩:=iU.obj id _ an;let C':qE:={C with len:=(xs.take n).length};have tU:vA (Mc.add nm (.arr true s (xs.take n)) C') (.arr true s (xs.take n)) C':=by
    obtain⟨q1,q2,q3,q4⟩:=yN9 (Mc:=Mc.add nm (.arr true s (xs.take n)) C') ⟨up.H,up.G⟩ hO;refine⟨rfl,q2,q3,?_⟩;show match C.blk with
     |none=>_
     |some B=>_
    cases hB:C.blk with
    |none=>rw[hB] at q4;show xs.take n=[];rw[q4];simp
    |some B=>
     rw[hB] at q4;obtain⟨vals,e,r1,r2,r3,r4⟩:=q4;have hle:(xs.take n).length≤xs.length:=by rw[List.length_take];omega
     have:=Nat.mul_le_mul_right s.size hle;refine⟨vals,e,r1,r2,by omega,fun i hi=>?_⟩;rw[List.getElem_take];exact r4 i (by omega)
   obtain⟨k1,k2,k3⟩:=zL.add_ok ok aU (o:=.arr true s (xs.take n)) (C:=C') tU (hb id (by simp[wL]) C hC);refine⟨Mc.add nm (.arr true s (xs.take n)) C',rfl,rfl,rfl,rfl,k1,k2,fun b bg=>(k3 b bg).imp (fun h=>h) fun h=>⟨id,by simp[wL],C,hC,h⟩,fun v hv=>?_⟩;obtain⟨C1,iS,h1,hS,_⟩:=hv;rw[hC] at iS;cases iS;have hl:(xs.take n).length=n:=by rw[List.length_take,←hO.1];omega
   refine⟨C',κset_same _ _ _,?_⟩;show jE Mc.H C' 0 (xs.take n).length v;rw[hl,up.H];exact hS
  ·cases h
 ·rename_i t;cases h;obtain⟨k1,k2,k3⟩:=Mc.nilObj_ok ok aU t false;refine⟨Mc.nilObj nm (kL t false) (mh t false),rfl,rfl,rfl,rfl,k1,k2,by grind,fun v hv=>?_⟩;rw[show v=.slice none 0 0 from hv];exact⟨_,κset_same _ _ _,none,0,rfl,rfl,rfl,rfl⟩
 ·rename_i id;split at h
  ·rename_i ver xs an;cases h;obtain⟨C,hC,hO⟩:=iU.obj id _ an;obtain⟨k1,k2,k3⟩:=zL.add_ok ok aU (o:=.mat 0 d) (C:={C with ver:=0}) (vPf (Mc:=Mc.add nm (.mat 0 d) {C with ver:=0}) ⟨up.H,up.G⟩ hO) (hb id (by simp[wL]) C hC);refine⟨Mc.add nm (.mat 0 d) {C with ver:=0},rfl,rfl,rfl,rfl,k1,k2,fun b bg=>(k3 b bg).imp (fun h=>h) fun h=>⟨id,by simp[wL],C,hC,h⟩,fun v hv=>?_⟩;obtain⟨C',aF,hS⟩:=hv;rw[hC] at aF;cases aF;refine⟨_,κset_same _ _ _,?_⟩;show jE Mc.H C 0 C.len v;rw[up.H];exact hS
  ·rename_i ver xs n an;obtain⟨hc,h⟩:Nat.beq xs.length n=true∧some xs=some d:=by
    cases e:Nat.beq xs.length n with
    |true=>rw[e] at h;exact⟨rfl,h⟩
    |false=>rw[e] at h;cases h
   cases h;obtain⟨C,hC,hO⟩:=iU.obj id _ an;obtain⟨k1,k2,k3⟩:=zL.add_ok ok aU (o:=.mat 0 d) (C:={C with ver:=0}) (vTl (Mc:=Mc.add nm (.mat 0 d) {C with ver:=0}) ⟨up.H,up.G⟩ hO (Nat.eq_of_beq_eq_true hc)) (hb id (by simp[wL]) C hC);refine⟨Mc.add nm (.mat 0 d) {C with ver:=0},rfl,rfl,rfl,rfl,k1,k2,fun b bg=>(k3 b bg).imp (fun h=>h) fun h=>⟨id,by simp[wL],C,hC,h⟩,fun v hv=>?_⟩;obtain⟨C',aF,hS⟩:=hv;rw[hC] at aF;cases aF;refine⟨_,κset_same _ _ _,?_⟩;show jE Mc.H C 0 C.len v;rw[up.H];exact hS
  ·cases h
 ·cases h;obtain⟨k1,k2,k3⟩:=Mc.nilObj_ok ok aU (.int .i64) true;refine⟨Mc.nilObj nm (kL (.int .i64) true) (mh (.int .i64) true),rfl,rfl,rfl,rfl,k1,k2,by grind,fun v hv=>?_⟩;rw[show v=.slice none 0 0 from hv];exact⟨_,κset_same _ _ _,none,0,rfl,rfl,rfl,rfl⟩
 ·rename_i id;split at h
  ·rename_i xs an;cases h;obtain⟨C,hC,hO⟩:=iU.obj id _ an;obtain⟨k1,k2,k3⟩:=zL.add_ok ok aU (o:=.pmat 0 [] xs.length) (C:={C with ver:=0}) (vPz (Mc:=Mc.add nm (.pmat 0 [] xs.length) {C with ver:=0}) ⟨up.H,up.G⟩ hO) (hb id (by simp[wL]) C hC);refine⟨Mc.add nm (.pmat 0 [] xs.length) {C with ver:=0},rfl,rfl,rfl,rfl,k1,k2,fun b bg=>(k3 b bg).imp (fun h=>h) fun h=>⟨id,by simp[wL],C,hC,h⟩,fun v hv=>?_⟩;obtain⟨C',aF,hS⟩:=hv;rw[hC] at aF;cases aF;refine⟨_,κset_same _ _ _,?_⟩;show jE Mc.H C 0 C.len v;rw[up.H];exact hS
  ·cases h
 ·cases h;obtain⟨k1,k2,k3⟩:=zL.add_ok ok aU (o:=.pmat 0 [] 0) (C:=⟨none,0,1,0,[]⟩) ⟨rfl,rfl,rfl,rfl,by simp[qE.fp],Nat.le_refl _,rfl⟩ (nofun);refine⟨Mc.add nm (.pmat 0 [] 0) ⟨none,0,1,0,[]⟩,rfl,rfl,rfl,rfl,k1,k2,fun b bg=>(k3 b bg).imp (fun h=>h) nofun,fun v hv=>?_⟩;rw[show v=.slice none 0 0 from hv];exact⟨_,κset_same _ _ _,none,0,rfl,rfl,rfl,rfl⟩
 ·rename_i id;split at h
  ·rename_i df an;cases h;obtain⟨C,hC,hO⟩:=iU.obj id _ an;have tU:vA (Mc.add nm (.imap d) C) (.imap d) C:=by
    obtain⟨B,es,ck,h1,h2,h3,h4,h5⟩:=hO;refine⟨B,es,ck,h1,h2,?_,h4,h5⟩;show Mc.H[B]? =_;rw[up.H];exact h3
   obtain⟨k1,k2,k3⟩:=zL.add_ok ok aU (o:=.imap d) (C:=C) tU (hb id (by simp[wL]) C hC);refine⟨Mc.add nm (.imap d) C,rfl,rfl,rfl,rfl,k1,k2,fun b bg=>(k3 b bg).imp (fun h=>h) fun h=>⟨id,by simp[wL],C,hC,h⟩,fun v hv=>?_⟩;obtain⟨C',B,aF,hB,e⟩:=hv;rw[hC] at aF;cases aF;exact⟨C,B,κset_same _ _ _,hB,e⟩
  ·cases h
 ·exact same rfl fun v hv=>hv
 ·exact same rfl fun v hv=>hv.one
 ·exact same rfl fun v hv=>hv
 ·cases h
theorem Ps r c l cs:wL (r::l) (c::cs)=wL [r] [c]++wL l cs:=by
 cases r<;>cases c<;>rfl
theorem yF4 {nm r d n}(h:n≠nm) hh:qJ hh (sw nm r d).2 n=hh n:=by
 cases r<;>first|rfl|exact yY _ _ h
theorem WY {h}:∀{n nm},xp h nm n=true→∀i,i<n→h (nm+i)=none
 |n+1,nm,e,i,hi=>by
  unfold xp at e;rw[Bool.and_eq_true] at e;cases i with
  |zero=>
   grind
  |succ i=>rw[←WY e.2 i (by omega)];grind
theorem WZ {L:zL}(iU:Ok L):∀{l:List RC} {cs:List qC} {d:RL l} {nm:Nat} {Mc:zL},Ok Mc→Up L Mc→(∀i,i<l.length→Mc.h (nm+i)=none)→kO L.h l cs=some d→(wL l cs).Nodup→
  (∀id∈wL l cs,∃o,L.h id=some o∧o.owned=true)→
  (∀id∈wL l cs,∀C,L.κ id=some C→∀b∈C.fp,¬qN Mc b∧¬Mc.F b∧b<Mc.H.size)→
  ∃eN:zL,eN.H=Mc.H∧eN.G=Mc.G∧eN.F=Mc.F∧eN.h=qJ Mc.h (oZ nm l d).2∧Ok eN∧yT Mc eN∧
   (∀b,qN eN b→qN Mc b∨∃id∈wL l cs,∃C,L.κ id=some C∧b∈C.fp)∧∀vs,zP (zZ L) cs vs→zP (zZ eN) (oZ nm l d).1 vs
 |[],[],d,nm,Mc,ok,up,_,_,_,_,_=>⟨Mc,rfl,rfl,rfl,rfl,ok,.refl Mc,fun b h=>.inl h,fun vs h=>by
  cases vs with
  |nil=>trivial
  |cons _ _=>exact h.elim⟩
 |r::l,c::cs,d,nm,Mc,ok,up,hf,h,dJ,aN,hb=>by
  unfold kO at h;split at h
  ·rename_i x xs e1 e2;cases h;rw[Ps] at dJ aN hb;obtain⟨nd1,nd2,nd3⟩:=List.nodup_append.1 dJ;obtain⟨M1,a1,a2,a3,a4,a5,a6,a7,a8⟩:=WX iU ok up (by have:=hf 0 (by simp);simpa using this) e1 (by grind);have up1:Up L M1:=⟨a1.trans up.H,a2.trans up.G⟩;obtain ⟨M2, b1, b2, b3, b4, b5, b6, b7, b8⟩ := WZ iU (nm := nm + 1) a5 up1 (fun i hi=>by
     rw[a4,yF4 (by omega)];have:=hf (i+1) (by simp;omega);grind) e2 nd2 (fun id an => aN id (by grind)) (fun id an C hC b EB=>by
     obtain⟨q1,q2,q3⟩:=hb id (List.mem_append_right _ an) C hC b EB;refine⟨fun ho=>?_,by simp_all,by simp_all⟩;rcases a7 b ho with ho|⟨jd,dh,D,hD,W0⟩
     ·exact q1 ho
     ·have bx:id≠jd:=by grind
      obtain⟨o1,p1,p2⟩:=aN id (by grind);obtain⟨o2,p3,p4⟩:=aN jd (List.mem_append_left _ dh);exact iU.disj id jd o1 o2 C D b bx p1 p3 p2 p4 hC hD EB W0)
   refine⟨M2,b1.trans a1,b2.trans a2,b3.trans a3,?_,b5,a6.trans (by simp_all) b6,fun b bg=>?_,fun vs dI=>?_⟩
   ·show M2.h=qJ Mc.h ((sw nm r x).2++(oZ (nm+1) l xs).2);rw[lz,←a4];exact b4
   ·rw[Ps];grind
   ·cases vs with
    |nil=>exact dI.elim
    |cons v vs=>exact⟨(a8 v dI.1).ext b6,b8 vs dI.2⟩
  ·cases h
 |[],_::_,_,_,_,_,_,_,h,_,_,_=>by cases h
 |_::_,[],_,_,_,_,_,_,h,_,_,_=>by cases h
theorem wP {α:Type}{c x}{y:α}(h:(bif c then x else none)=some y):c=true∧x=some y:=by
 grind
theorem yMg {M}:∀{l xs cs vs},WL l xs=some cs→zP (xd M) xs vs→
  cs.length=(l.flatMap (·.2)).length∧∃us:List Value,zP (zZ M) cs us∧∀M' aS,zP (zZ M') aS us→zP (xd M') (WM l aS) vs
 |[],[],cs,[],h,_=>by cases h;exact⟨rfl,[],trivial,fun _ _ _=>trivial⟩
 |(b,l)::ls,(g,mX)::rest,cs,v::vs,h,hv=>by
  obtain⟨hc,h⟩:=wP h;split at h
  ·rename_i r hr;cases h;rw[Bool.and_eq_true] at hc;have hl:mX.length=l.length:=by simp_all
   obtain⟨k1,us,k2,k3⟩:=yMg hr hv.2;refine⟨by simp_all,?_⟩;cases b with
   |true=>
    have hg:g=true:=hc.1;subst hg;obtain⟨ws,rfl,hw⟩:=hv.1;refine⟨ws.toList++us,hw.append k2,fun M' aS h'=>⟨?_,?_⟩⟩
    ·have h1:=zP.take l.length h';have W1:=hw.length;rw[show(ws.toList++us).take l.length=ws.toList from by simp_all] at h1;exact⟨ws,rfl,h1⟩
    ·have h1:=zP.drop l.length h';have W1:=hw.length;simp_all
   |false=>
    have hg:=hc.1;simp  at hg;obtain⟨Pt,hg2⟩:=hg;subst Pt;have tX:mX.length=1:=by simp_all
    match mX,tX with
    |[c],_=>
     have nP:zZ M c v:=hv.1;refine⟨v::us,⟨nP,k2⟩,fun M' aS h'=>?_⟩
     match aS,h' with
     |c'::W2,h'=>
      have e:l.length=1:=by omega
      refine⟨?_,?_⟩
      ·rw[e];exact h'.1
      ·rw[e];exact k3 M' W2 h'.2
  ·cases h
 |[],[],_,_::_,_,hv=>hv.elim
theorem yVr {M}{s:RS}{v cs rv}(h:s.get v=some cs)(hv:zX M v rv):
  cs.length=s.cells.length∧∃us:List Value,zP (zZ M) cs us∧∀M' aS,zP (zZ M') aS us→zX M' (s.mk aS) rv:=by
 unfold RS.get at h;split at h
 ·cases h;refine⟨rfl,[rv],⟨hv,trivial⟩,fun M' aS h'=>?_⟩
  match aS,h' with
  |[c'],h'=>exact h'.1
 ·obtain⟨hl,h⟩:=wP h;cases h;obtain⟨vs,rfl,hx⟩:=hv;exact⟨Nat.eq_of_beq_eq_true hl,vs.toList,hx,fun M' aS h'=>⟨vs,rfl,h'⟩⟩
 ·obtain⟨vs,rfl,hx⟩:=hv;obtain⟨k1,us,k2,k3⟩:=yMg h hx;exact⟨k1,us,k2,fun M' aS h'=>⟨vs,rfl,by grind⟩⟩
 ·cases h
theorem W3 {h0 s a a' v u M}(ok:Ok M)(hf:jG h0 M.h)(hv:zX M a v)(h:xq h0 s a=some (a',u)):
  ∃L:zL,L.H=M.H∧L.h=qJ M.h u∧Ok L∧yR M L∧zX L a' v∧jG h0 L.h:=by
 unfold xq at h;split at h
 ·rename_i p x;split at h
  ·rename_i y u1 e;cases h;obtain⟨L,h1,h2,h3,h4,h5,h6⟩:=xu (cs:=[x]) (vs:=[v]) ok hf ⟨hv,trivial⟩ e;exact⟨L,h1,h2,h3,h4,h5.1,h6⟩
  ·cases h
 ·split at h
  ·rename_i ys u1 e;cases h;obtain⟨vs,rfl,hx⟩:=hv;obtain⟨L,h1,h2,h3,h4,h5,h6⟩:=xu ok hf hx e;exact⟨L,h1,h2,h3,h4,⟨vs,rfl,h5⟩,h6⟩
  ·cases h
 ·cases h;exact⟨M,rfl,rfl,ok,.refl M,hv,hf⟩
theorem xv.ext {M M'}(x:yT M M'):∀{as vs},zP (zX M) as vs→zP (zX M') as vs:=fun h=>h.mono fun _ _ h=>h.ext x
theorem yV0 {h0}:∀{l as fc vs u M},Ok M→jG h0 M.h→zP (zX M) as vs→sA h0 l as=some (fc,u)→
  ∃L:zL,L.H=M.H∧L.h=qJ M.h u∧Ok L∧yR M L∧zP (zX L) fc vs∧jG h0 L.h
 |s::l,a::as,fc,v::vs,u,M,ok,hf,hv,h=>by
  unfold sA at h;split at h
  ·rename_i a1 u1 W4 sb e1 e2;cases h;obtain⟨M1,h1,h2,h3,h4,h5,h6⟩:=W3 ok hf hv.1 e1;obtain⟨M2,k1,k2,k3,k4,k5,k6⟩:=yV0 h3 h6 (xv.ext h4.ext hv.2) e2;exact⟨M2,k1.trans h1,by rw[k2,h2,lz],k3,h4.trans k4,⟨h5.ext k4.ext,k5⟩,k6⟩
  ·cases h
 |[],as,fc,vs,u,M,ok,hf,hv,h=>by
  cases as<;>cases h<;>exact⟨M,rfl,rfl,ok,.refl M,hv,hf⟩
 |s::l,[],fc,vs,u,M,ok,hf,hv,h=>by cases h;exact⟨M,rfl,rfl,ok,.refl M,hv,hf⟩
def zL.over (M L:zL):zL:={κ:=M.κ,F:=fun b=>M.F b∨L.G b,G:=L.G,h:=M.h,H:=L.H}
theorem zL.over_ok {M Ml L}(ok:Ok M)(iU:Ok L)(lo:Lo M Ml)(Kn:∀b,¬qN Ml b)(g:ke Ml L):Ok (M.over L)∧yR M (M.over L):=by
 have bd:∀b,Ml.F b↔b<M.H.size:=fun b=>by rw[lo.F]
 have cU:∀b,b<M.H.size→L.H[b]? =M.H[b]? :=fun b hb=>by rw[g.same b (by grind),lo.H]
 have dH:M.H.size≤L.H.size:=by grind
 have hG:∀b,L.G b→b<M.H.size→M.G b:=fun b hb hs=>by
  rcases g.Gb b hb (by rw[lo.H];exact hs) with h|h
  ·rw[lo.G] at h;exact h
  simp_all
 have kF:∀b,M.F b→b<M.H.size:=ok.Flt;have x:yT M (M.over L):=⟨fun id C h=>⟨C,h,C.le_refl⟩,fun b h=>.inl h,fun b h=>g.G b (by rw[lo.G];exact h),fun b h=>cU b (by grind),fun b h=>cU b (ok.Flt b (ok.GF b h)),fun b h=>D4 (cU b h)⟩;have aN:∀b,qN (M.over L) b→qN M b:=fun b h=>h
 refine⟨⟨fun id o h=>?_,fun id h=>ok.non id h,ok.disj,fun b h=>⟨fun hf=>?_,?_⟩,fun b h=>.inr h,fun b h=>?_⟩,⟨x,dH,fun b hb _=>cU b hb,by grind,fun b h hs=>.inl (hG b h hs),fun b h hs=>?_⟩⟩
 ·obtain⟨C,hC,hO⟩:=ok.obj id o h;exact⟨C,hC,hO.ext x fun ho b hb=>cU b (ok.own b ⟨id,o,C,h,ho,hC,hb⟩).2⟩
 ·have:=ok.own b (aN b h);rcases hf with hf|hf
  ·simp_all
  ·exact this.1 (ok.GF b (by grind))
 ·have h1:=(ok.own b (aN b h)).2;show b<L.H.size;omega
 ·show b<L.H.size;rcases h with h|h
  ·grind
  ·exact iU.Flt b (iU.GF b h)
 ·rcases h with h|h
  ·simp_all
  ·exact .inl (ok.GF b (hG b h hs))
theorem vYa {h0 r c d}(h:pZ h0 r c=some d):∀id∈wL [r] [c],∃o,h0 id=some o∧o.owned=true:=by
 unfold pZ at h;split at h;all_goals (try (intro id an;simp[wL] at an;done))
 ·intro Eu an;have:=List.mem_singleton.1 an;subst this;split at h
  ·exact⟨_,by assumption,rfl⟩
  ·cases h
 ·intro Eu an;have:=List.mem_singleton.1 an;subst this;split at h
  ·exact⟨_,by omega,rfl⟩
  ·cases h
 ·rename_i id;intro Eu an;have:=List.mem_singleton.1 an;subst this;split at h
  ·exact⟨_,by assumption,rfl⟩
  ·exact⟨_,by omega,rfl⟩
  ·cases h
 ·intro Eu an;have:=List.mem_singleton.1 an;subst this;split at h
  ·exact⟨_,by assumption,rfl⟩
  ·cases h
 ·intro Eu an;have:=List.mem_singleton.1 an;subst this;split at h
  ·exact⟨_,by assumption,rfl⟩
  ·cases h
 ·cases h
theorem xw {L:zL}:∀{l cs d},kO L.h l cs=some d→∀id∈wL l cs,∃o,L.h id=some o∧o.owned=true
 |r::l,c::cs,d,h,id,an=>by
  unfold kO at h;split at h
  ·rename_i x xs e1 e2;rw[Ps] at an;rcases List.mem_append.1 an with an|an
   ·exact vYa e1 id an
   ·exact xw e2 id an
  ·cases h
theorem yRm {E}(hE:gy E)(hS:kb E.sums)(hm:E.P.follows .mixedOrders=true){A k pre na f fn}(hf:E.P.funcs[f]? =some fn)(hL:∀c,fn.body=some c→wN E.P A pre na fn.ntmps c)(cd:∀vs w,(callFunc f vs).run E.P w=.ok (.enter f vs) w)
  {as rs X S pack} {unpack:RL rs.cells→X} (fD:∀d,pack (unpack d)=d) (aV:∀d x,S d=some x→∀Ml vs,zP (zX Ml) (pY as d).1 vs→∃eO,zP (zX Ml) eO vs∧kE E A k pre na fn eO (pY as d).2 (nc rs unpack)=some x)
  {nm args h v u} (hy:yO (o6 as rs S pack nm args h) v u):ue E.P f args h v u:=by
 intro M w vs hh hH ok hv;refine .inl ⟨cd vs w,?_⟩;unfold o6 at hy;split at hy
 ·exact hy.elim
 rename_i eO u0 By;split at hy
 case h_2=>exact hy.elim
 rename_i d hd;obtain⟨hc,hy⟩:=Bh hy;rw[Bool.and_eq_true] at hc;obtain⟨x,hx,rfl,rfl⟩:=hy;subst hh;obtain⟨M1,a1,a2,a3,a4,a5,a6⟩:=yV0 ok (jG.refl _) hv By;rw[←a2] at hd;obtain⟨Ml,lo,b2,b3,b4,b5⟩:=vSb a3 a5 hd;obtain⟨aho,Bz,W5⟩:=aV d x hx Ml _ b5;refine Calls.mono (WJ hE hS hm hf hL W5 b2 (by rw[lo.H,a1];exact hH) b3 Bz) fun e w' he=>?_
 cases e with
 |panicked _=>omega
 |outgrown=>omega
 |returned rv=>
  obtain⟨L0,v0,st,hK,c1,c2,c3,c4,_,c5,c6,c7,c8,_⟩:=he;have hK:Kl st.h rs v0=some (pack x):=by
   unfold nc at hK;grind
  unfold Kl at hK;split at hK
  case h_2=>cases hK
  rename_i cs nT;split at hK
  case h_2=>cases hK
  rename_i aS u1 BA;obtain⟨dJ,hK⟩:=wP hK;obtain⟨hlen,us,d1,d2⟩:=yVr nT c5;rw[←c1] at BA hK;obtain⟨L,e1,e2,e3,e4,e5,e6⟩:=xu c3 (jG.refl _) d1 BA;rw[←e2] at hK;have g:ke Ml L:=c4.trans e4.grow;obtain⟨f1,f2⟩:=zL.over_ok a3 e3 lo b4 g;have qa:∀i,i<rs.cells.length→(M1.over L).h (nm+i)=none:=fun i hi=>by
   have h1:=WY hc.1 i hi;show M1.h (nm+i)=none;rcases a6 (nm+i) with h|⟨own,t,xs,h,_⟩|⟨ver,xs,h,_⟩
   all_goals simp_all
  obtain ⟨Mc, g1, g2, g3, g4, g5, g6, g7, g8⟩ := WZ e3 f1 ⟨rfl, rfl⟩ qa hK (Em dJ) (xw hK) (fun id an C hC b hb=>by
   obtain⟨o,ho,iT⟩:=xw hK id an;have aN:qN L b:=⟨id,o,C,ho,iT,hC,hb⟩;have oR:¬b<M1.H.size:=fun bd=>b4 b (g.own b aN (by rw[lo.H];omega))
   refine⟨fun h=>oR (a3.own b h).2,fun h=>?_,(e3.own b aN).2⟩;rcases h with h|h
   ·exact oR (a3.Flt b h)
   ·exact(e3.own b aN).1 (e3.GF b h))
  have xx:yR M1 Mc:=by
   have aN:∀b,qN Mc b→b<M1.H.size→qN M1 b:=fun b hb bd=>by
    rcases g7 b hb with h|⟨id,an,C,hC,EB⟩
    ·exact h
    ·obtain⟨o,ho,iT⟩:=xw hK id an;exact absurd (g.own b ⟨id,o,C,ho,iT,hC,EB⟩ (by rw[lo.H];omega)) (b4 b)
   refine⟨f2.ext.trans f2.size g6,?_,fun b hb hn=>?_,aN,fun b hb bd=>?_,fun b hb bd=>?_⟩
   ·rw[g1];exact f2.size
   ·rw[g1];exact f2.frame b hb hn
   ·rw[g2] at hb;exact f2.Gb b hb bd
   ·rw[g3] at hb;exact f2.Fb b hb bd
  refine⟨Mc,⟨c6,c7,c8,?_,?_,g5,a4.trans xx⟩,?_⟩
  ·rw[g1];show L.H=_;rw[e1,c2]
  ·rw[lz,←a2];exact g4
  ·exact d2 Mc _ (g8 us e5)
theorem W6 {E}(hE:gy E)(hS:kb E.sums)(hm:E.P.follows .mixedOrders=true){A k pre na f fn}(hf:E.P.funcs[f]? =some fn)(hL:∀c,fn.body=some c→wN E.P A pre na fn.ntmps c)(cd:∀vs w,(callFunc f vs).run E.P w=.ok (.enter f vs) w)
  {as rs X S} {pack:X→RL rs.cells} {unpack} (fD:∀d,pack (unpack d)=d) (aV:∀d,kE E A k pre na fn (pY as d).1 (pY as d).2 (nc rs unpack)=S d)
  {nm args h v u} (hy:yO (o6 as rs S pack nm args h) v u):ue E.P f args h v u:=
 yRm hE hS hm hf hL cd fD (fun d x hx _ _ hv=>⟨_,hv,(aV d).trans hx⟩) hy
theorem vL6 {E}(hE:gy E)(hS:kb E.sums)(hm:E.P.follows .mixedOrders=true){A k pre na f fn}(hf:E.P.funcs[f]? =some fn)(hL:∀c,fn.body=some c→wN E.P A pre na fn.ntmps c)(cd:∀vs w,(callFunc f vs).run E.P w=.ok (.enter f vs) w)
  {sh t rs X} {S:List t.den→Option X} {pack unpack} (fD:∀d,pack (unpack d)=d) (cO:∀x,S []=some x→kE E A k pre na fn [.c .nsl] (mj []) (nc rs unpack)=some x)
  (aV:∀xs x,S xs=some x→kE E A k pre na fn [.c (.nfl sh t xs)] (mj []) (nc rs unpack)=some x)
  {nm args h v u} (hy:yO (o6 [.c (.dat sh t)] rs (fun d=>S d.1) pack nm args h) v u):ue E.P f args h v u:=
 yRm hE hS hm hf hL cd fD (fun d x hx Ml vs hv=>by
  obtain⟨xs,_⟩:=d
  match vs,hv with
  |[v],hv=>
   have nP:qF Ml.H (bif sh then Ml.G else Ml.F) (.sl t) xs (fun _=>some v):=hv.1;have pS:=nP;simp[qF] at nP;obtain⟨A',n,c,rfl,hn,hc,h⟩:=nP;cases A' with
   |some a=>exact⟨[.c (.nfl sh t xs)],⟨⟨by simp,pS⟩,trivial⟩,aV xs x hx⟩
   |none=>
    rcases h with⟨rfl,h0⟩|⟨B,o,e,_⟩
    ·have h0:=h0 rfl;subst h0;subst hn;exact⟨[.c .nsl],⟨rfl,trivial⟩,cO x hx⟩
    ·cases e) hy
def yW.orElse:yW→yW→yW
 |.alts [],b=>b
 |a,_=>a
abbrev nU:=Nat→Nat→List zY→Hp→yW
def fe:List (Nat×nU)→Ov
 |[],_,_,_,_,_=>.stuck
 |(g,e)::l,k,nm,f,args,h=>bif Nat.beq g f then(e k nm args h).orElse (fe l k nm f args h) else fe l k nm f args h
def vIo (P:Program)(r:Nat×nU):Prop:=∀k nm args h v u,yO (r.2 k nm args h) v u→ue P r.1 args h v u
def Ko (e:nU):Prop:=∀k nm (args:List zY) h h',(args.any wS=false→∀id,(id∈args.flatMap yU∨nK nm id=true)→h id=h' id)→(args.any wS=true→h=h')→e k nm args h=e k nm args h'
theorem W7 {a b v u}(h:yO (a.orElse b) v u):yO a v u∨yO b v u:=by
 unfold yW.orElse at h;grind
theorem yL1 {P}:∀{l},(∀r∈l,vIo P r)→yLp P (fe l)
 |[],_=>nofun
 |(g,e)::l,hl=>fun k nm f args h v u hy=>by
  have ih:=yL1 (l:=l) fun r hr=>hl r (by grind)
  unfold fe at hy;cases hg:Nat.beq g f with
  |false=>rw[hg] at hy;exact ih k nm f args h v u hy
  |true=>
   rw[hg] at hy;have:g=f:=by simp_all
   subst this;rcases W7 hy with hy|hy
   ·exact hl (g,e) (by simp) k nm args h v u hy
   ·exact ih k nm g args h v u hy
theorem vE5:∀{l},(∀r∈l,Ko r.2)→kb (fe l)
 |[],_=>fun k nm f args h h' _ _=>rfl
 |(g,e)::l,hl=>fun k nm f args h h' h1 h2=>by
  have ih:=vE5 (l:=l) (by grind) k nm f args h h' h1 h2;unfold fe;have he:e k nm args h=e k nm args h':=hl (g,e) (by simp) k nm args h h' h1 h2;rw[ih,he]
section
variable {h h':Hp}
theorem W8 {t c}(hh:∀id∈vL c,h id=h' id):Bv h t c=Bv h' t c:=by
 have e:=Pg hh;unfold Bv;grind
theorem yZf {p c}(hh:∀id∈vL c,h id=h' id):um h p c=um h' p c:=by
 have e:=fun t=>W8 (t:=t) hh
 unfold um;grind
theorem yF7:∀{l cs},(∀id∈cs.flatMap vL,h id=h' id)→Bw h l cs=Bw h' l cs
 |[],[],_
 |[],_::_,_
 |_::_,[],_=>rfl
 |p::l,c::cs,hh=>by
  simp  at hh;unfold Bw;rw[yZf fun id hi=>hh id (.inl hi),yF7 (by grind)]
theorem W9 {ls}:uo h ls []=uo h' ls []:=by
 cases ls<;>rfl
theorem vWt {s:AS}{a}(hb:wS a=false):s.get h a=s.get h' a:=by
 unfold AS.get;cases s with
 |c p=>grind
 |agg l=>grind
 |ptr l=>
  cases a with
  |c x=>cases x<;>first|rfl|(exact absurd hb (by nofun))
  |_=>rfl
 |fn f bA=>
  cases a with
  |c x=>cases x with
   |fn g ids=>
    cases ids with
    |nil=>dsimp only;rw[W9]
    |cons _ _=>exact absurd hb (by nofun)
   |_=>rfl
  |_=>rfl
theorem Xa {s:AS}{a cs}(hb:wS a=false)(e:s.get h a=some cs):∀id∈cs.flatMap vL,id∈yU a:=by
 unfold AS.get at e;split at e
 ·cases e;intro id an;simp  at an;exact an
 ·obtain⟨_,e⟩:=wP e;cases e;exact fun id an=>an
 ·exact absurd hb (by nofun)
 ·rename_i f bA g ids;obtain⟨_,e⟩:=wP e;cases ids with
  |nil=>cases bA with
   |nil=>cases e;simp
   |cons _ _=>cases e
  |cons _ _=>exact absurd hb (by nofun)
 ·cases e
theorem yJq:∀{l as},as.any wS=false→sv h l as=sv h' l as
 |[],[],_
 |[],_::_,_
 |_::_,[],_=>rfl
 |s::l,a::as,hb=>by
  simp only[List.any_cons,Bool.or_eq_false_iff] at hb;unfold sv;rw[vWt (h:=h) (h':=h') hb.1,yJq hb.2]
theorem yU2:∀{l as cs},as.any wS=false→sv h l as=some cs→∀id∈cs.flatMap vL,id∈as.flatMap yU
 |[],[],cs,_,e=>by cases e;simp
 |s::l,a::as,cs,hb,e=>by
  simp only[List.any_cons,Bool.or_eq_false_iff] at hb;unfold sv at e;split at e
  ·rename_i c1 rest e1 e2;cases e;intro id an;rw[List.flatMap_append,List.mem_append] at an;rw[List.flatMap_cons,List.mem_append];rcases an with an|an
   ·exact .inl (Xa hb.1 e1 id an)
   ·exact .inr (yU2 hb.2 e2 id an)
  ·cases e
theorem vKw {l as}(hb:as.any wS=false)(hh:∀id∈as.flatMap yU,h id=h' id):Bx h l as=Bx h' l as:=by
 unfold Bx;rw[yJq (h:=h) (h':=h') hb];cases e:sv h' l as with
 |none=>rfl
 |some cs=>exact yF7 fun id an=>hh id (yU2 hb e id an)
theorem EC {x}:[x].flatMap vL=yU (.c x):=by simp[yU]
theorem Xb {c c' u}(e:oP h c=some (c',u)):(∀id∈vL c',id∈vL c)∧(wS (.c c')=true→wS (.c c)=true):=by
 cases c with
 |osl id r=>
  unfold oP at e;dsimp only at e;split at e
  ·cases e;exact⟨nofun,nofun⟩
  ·cases r with
   |none=>cases e;exact⟨nofun,nofun⟩
   |some _=>cases e
  ·cases e
 |mrow _ _ _=>cases e
 |_=>cases e;simp
theorem ED:∀{l cs},(∀id∈cs.flatMap vL,h id=h' id)→gA h l cs=gA h' l cs
 |[],cs,_=>by rfl
 |true::l,[],_
 |false::l,[],_=>rfl
 |true::l,c::cs,hh=>by
  simp  at hh;unfold gA;rw[yKt fun id hi=>hh id (.inl hi),ED (by grind)]
 |false::l,c::cs,hh=>by
  unfold gA;rw[ED (by grind)]
theorem EE:∀{l cs aS u},gA h l cs=some (aS,u)→∀id∈aS.flatMap vL,id∈cs.flatMap vL
 |[],cs,aS,u,e=>by cases cs<;>cases e<;>exact by simp
 |true::l,[],aS,u,e
 |false::l,[],aS,u,e=>by cases e;simp
 |true::l,c::cs,aS,u,e=>by
  unfold gA at e;split at e
  ·rename_i c1 u1 mX sb e1 e2;cases e;intro id an;rw[List.flatMap_cons,List.mem_append] at an⊢;exact an.imp ((Xb e1).1 id) (EE e2 id)
  ·cases e
 |false::l,c::cs,aS,u,e=>by
  unfold gA at e;split at e
  ·rename_i mX sb e2;cases e;intro id an;rw[List.flatMap_cons,List.mem_append] at an⊢;exact an.imp (by simp) (EE e2 id)
  ·cases e
theorem Xc {s a}(hh:∀id∈yU a,h id=h' id):xq h s a=xq h' s a:=by
 unfold xq;cases s with
 |c p=>cases a with
  |c x=>
   have:=ED (h:=h) (h':=h') (l:=[p.isKept]) (cs:=[x]) (by rw[EC];exact hh);simp_all
  |_=>rfl
 |agg l=>cases a with
  |agg xs=>
   have:=ED (h:=h) (h':=h') (l:=l.map PC.isKept) (cs:=xs) hh;simp_all
  |_=>rfl
 |_=>rfl
theorem Xd {s a a' u}(e:xq h s a=some (a',u)):(∀id∈yU a',id∈yU a)∧(wS a=false→wS a'=false):=by
 unfold xq at e;split at e
 ·rename_i p x;split at e
  ·rename_i y u1 e1;cases e;refine⟨fun id an=>by have:=EE e1 id (by rw[EC];omega);rwa [EC] at this,fun hb=>?_⟩;cases hk:p.isKept with
   |false=>rw[hk] at e1;cases e1;exact hb
   |true=>
    rw[hk] at e1;unfold gA at e1;split at e1
    ·rename_i c1 u2 mX sb e2 e3;cases e1;cases hy:wS (.c y) with
     |false=>rfl
     |true=>rw[(Xb e2).2 hy] at hb;cases hb
    ·cases e1
  ·cases e
 ·split at e
  ·rename_i ys u1 e1;cases e;exact⟨EE e1,fun _=>rfl⟩
  ·cases e
 simp_all
theorem yT2:∀{l as},(∀id∈as.flatMap yU,h id=h' id)→sA h l as=sA h' l as
 |[],as,_=>by rfl
 |_::_,[],_=>rfl
 |s::l,a::as,hh=>by
  simp  at hh;unfold sA;rw[Xc fun id hi=>hh id (.inl hi),yT2 (by grind)]
theorem yV2:∀{l as fc u},sA h l as=some (fc,u)→(∀id∈fc.flatMap yU,id∈as.flatMap yU)∧(as.any wS=false→fc.any wS=false)
 |[],as,fc,u,e=>by cases as<;>cases e<;>exact by simp
 |s::l,[],fc,u,e=>by cases e;simp
 |s::l,a::as,fc,u,e=>by
  unfold sA at e;split at e
  ·rename_i a1 u1 W4 sb e1 e2;obtain⟨k1,k2⟩:=Xd e1;obtain⟨k3,k4⟩:=yV2 e2;grind
  ·cases e
theorem Xe:∀{n nm},(∀i,i<n→h (nm+i)=h' (nm+i))→xp h nm n=xp h' nm n
 |0,_,_=>rfl
 |n+1,nm,hh=>by
  unfold xp;have:=hh 0 (by omega);rw[Nat.add_zero] at this;rw[this,Xe (by grind)]
end
theorem yZe {as rs X}{S:Nat→AD as→Option X}{pack}:Ko fun k nm args h=>o6 as rs (S k) pack nm args h:=by
 intro k nm args h h' h1 h2;cases hb:args.any wS with
 |true=>rw[h2 hb]
 |false=>
  have hh:=h1 hb;show o6 as rs (S k) pack nm args h=o6 as rs (S k) pack nm args h';unfold o6;rw[yT2 (h:=h) (h':=h') (by grind)];cases e:sA h' as args with
  |none=>rfl
  |some p=>
   obtain⟨eO,u⟩:=p;obtain⟨k1,k2⟩:=yV2 e;dsimp only;rw[vKw (h:=qJ h u) (h':=qJ h' u) (k2 hb) fun id an=>Bo (by grind)];cases Bx (qJ h' u) as eO with
   |none=>rfl
   |some d=>
    cases hle:Nat.ble rs.cells.length 100 with
    |false=>simp
    |true=>
     have hle:=Nat.le_of_ble_eq_true hle;rw [Xe (h := h) (h' := h') fun i hi => hh _ (.inr (by
      simp only[nK,Bool.and_eq_true];exact⟨by simp,by simp[Nat.blt_eq];omega⟩))]
def nV:Code→List Code
 |.seq a b=>nV a++nV b
 |.cond _ a b=>nV a++nV b
 |.block _ b=>nV b
 |.loop b=>[b]
 |_=>[]
def zS (c:Code)(i:Nat):Code:=match(nV c)[i]? with
 |some b=>b
 |none=>.skip
def zT (fn:Func):Code:=match fn.body with
 |some c=>c
 |none=>.skip
def yM0 (P:Program)(A:zW)(pre na nt:Nat)(b:Code):Prop:=(∃L,xa A b=some L∧zU P pre na nt b L)∨(xa A b=none∧wN P A pre na nt b)
theorem Xf {P A pre na nt}:∀c,(∀b∈nV c,yM0 P A pre na nt b)→wN P A pre na nt c:=by
 intro c
 induction c with
 |seq a b Ej Ek=>exact fun h=>⟨Ej fun x hx=>h x (List.mem_append_left _ hx),Ek fun x hx=>h x (List.mem_append_right _ hx)⟩
 |cond t a b Ej Ek=>exact fun h=>⟨Ej fun x hx=>h x (List.mem_append_left _ hx),Ek fun x hx=>h x (List.mem_append_right _ hx)⟩
 |block id b ih=>exact fun h=>ih h
 |loop b ih=>
  intro h;rcases h b (List.mem_cons_self ..) with⟨L,h1,h2⟩|⟨h1,h2⟩
  ·refine⟨by grind,by grind⟩
  ·refine⟨fun L' h3=>?_,fun _=>h2⟩;simp_all
 |_=>exact fun _=>trivial
theorem EF {P A pre na nt c n}(hn:(nV c).length=n)(h:∀i,i<n→yM0 P A pre na nt (zS c i)):wN P A pre na nt c:=
 Xf c fun b hb=>by
  obtain⟨i,hi,rfl⟩:=List.getElem_of_mem hb;have e:zS c i=(nV c)[i]:=by
   unfold zS;grind
  grind
theorem mm {P A pre na nt c n}(hn:(nV c).length=n)(h:∀i,i<n→∃L,xa A (zS c i)=some L∧zU P pre na nt (zS c i) L):wN P A pre na nt c:=
 EF hn fun i hi=>.inl (h i hi)
theorem vLl {P A pre na nt c}(hn:(nV c).length=0):wN P A pre na nt c:=mm hn (by simp)
theorem body_loops {P A pre na fn}(h:wN P A pre na fn.ntmps (zT fn)):∀c,fn.body=some c→wN P A pre na fn.ntmps c:=fun c hc=>by
 unfold zT at h;simp_all
theorem Kp {P f fn}(hf:P.funcs[f]? =some fn)(hb:fn.body.isNone=false)(hn:(fn.name== "runtime.NumGoroutine")=false):∀vs w,(callFunc f vs).run P w=.ok (.enter f vs) w:=fun vs w=>by
 have h1:(program).run P w=.ok P w:=rfl;unfold callFunc;simp only[Sem.run_bind,h1,Result.andThen_ok,hf,hn,hb,Bool.false_eq_true,if_false,Sem.run_pure]
abbrev zA (x:Int):Int:=IntKind.wrap .i64 x
abbrev yK (k:IntKind)(x y:Int):Int:=tL (fun _ a b=>a&&&b) k x y
abbrev wU (k:IntKind)(x y:Int):Int:=tL (fun _ a b=>a|||b) k x y
abbrev shl (k:IntKind)(x y:Int):Int:=k.wrap (x*2^(min y.toNat k.bits))
abbrev shr (k:IntKind)(x y:Int):Int:=x.fdiv (2^(min y.toNat k.bits))
abbrev zO (n b:Nat):Bool:=Nat.ble (n*b) 140737488355328&&Nat.ble n 140737488355328
abbrev pb (l c:Int)(b:Nat):Bool:=decide (0≤l)&&decide (l≤c)&&decide (c*(b:Int)≤140737488355328)&&decide (c≤140737488355328)
abbrev yE (lt:Bool)(x y:Int):Int:=bif lt then(bif decide (y<x) then y else x) else(bif decide (y>x) then y else x)
abbrev Xg (xs:List (List Int))(n:Nat):Option (List (List Int)):=
 nc (.c .mat) (fun d=>d.1) (.c (.osl 0 none)) ⟨fun _=>.undef,fun _=>some (.pmat 0 xs n)⟩
theorem vYd xs n:Xg xs n=bif Nat.beq xs.length n then some xs else none:=by
 unfold Xg nc Kl RS.get RS.cells;dsimp only[List.map,RC.isFro,gA,wL,tM,qJ];cases h:Nat.beq xs.length n<;>simp[kO,pZ,h]
theorem Pu {l:List Nat}{p:Nat→Bool}(hl:∀t∈l,p t=true)(t:Nat)(h:l.any (Nat.beq t)=true):p t=true:=by
 simp_all
theorem Xh {P}:JN P (fun _=>false):=nofun
open Go.ChangeShapes Go.WideShapes Go.ChangeAt Go.RowKit
def Kq (f:TypeId→Option Ty):Nat→List (Nat×TypeId)→Option Ty
 |_,[]=>none
 |off,[x]=>bif Nat.beq x.1 off then f x.2 else none
 | off, x :: y :: l => bif Nat.beq x.1 off then (match f x.2 with
  |some a=>(match Kq f (off+a.size) (y::l) with|some b=>some (.pair a b)|none=>none)
  |none=>none) else none
def sB (P:Program):TypeDesc→List (Nat×TypeId)
 |.struct fs=>fs.toList.map fun f=>(f.offset,f.type)
 |.array n e=>(List.range n).map fun i=>(i*P.cellsOf e,e)
 |_=>[]
def pc (P:Program):Nat→TypeId→Option Ty
 |0,_=>none
 |d+1,t=>match P.underlying t with
  |some (.int k)=>bif Nat.beq (P.cellsOf t) 1 then some (.int k) else none
  |some .bool=>bif Nat.beq (P.cellsOf t) 1 then some .bool else none
  |some (.slice e)=>bif Nat.beq (P.cellsOf t) 1&&Nat.ble 1 (P.bytesOf e) then(match pc P d e with|some a=>some (.sl a)|none=>none) else none
  |some x=>match Kq (pc P d) 0 (sB P x) with
   |some a=>bif Nat.beq (P.cellsOf t) a.size then some a else none
   |none=>none
  |none=>none
def Wf:(t:Ty)→t.den→Prop
 |.int k,n=>(Lit.int k n).wf=true
 |.bool,_=>True
 |.sl t,xs=>xs.length≤reachBytes∧∀i (h:i<xs.length),Wf t xs[i]
 |.pair a b,p=>Wf a p.1∧Wf b p.2
theorem Xi {P}:∀{d t ty},pc P d t=some ty→P.cellsOf t=ty.size
 |d+1,t,ty,h=>by
  unfold pc at h;split at h
  ·obtain⟨h1,h2⟩:=wP h;cases h2;exact Nat.eq_of_beq_eq_true h1
  ·obtain⟨h1,h2⟩:=wP h;cases h2;exact Nat.eq_of_beq_eq_true h1
  ·obtain⟨h1,h2⟩:=wP h;rw[Bool.and_eq_true] at h1;split at h2
   ·cases h2;exact Nat.eq_of_beq_eq_true h1.1
   ·cases h2
  ·split at h
   ·obtain⟨h1,h2⟩:=wP h;simp_all
   ·cases h
  ·cases h
section
variable {H:Type} {enc:TypeId×Value→H} {P:Program} {w:World}
abbrev Kr (w:World):Nat→Prop:=fun b=>b<w.heap.size
theorem Xj {a n cs}(h:w.cells? 0 a n=some cs):cs.length=n∧∀i,i<n→∃v,cs[i]? =some v∧w.cell? (a.add i)=some v:=by
 have hl:=mapM_some_length h;have hg:=mapM_some_get h;simp at hl;refine⟨hl,fun i hi=>?_⟩;have:=hg i i (by simp[hi]);simp_all
theorem yXo {a v}(h:w.cell? a=some v):a.spot=none∧a.block<w.heap.size∧yX w.heap a.block a.off=some v:=by
 unfold World.cell? at h;cases hb:w.heap[a.block]? with
 |none=>simp_all
 |some o=>
  rw[hb] at h;cases o with
  |cells c e z=>
   dsimp only at h;split at h
   ·cases h
   ·refine⟨by simp_all,?_,?_⟩
    ·grind
    ·unfold yX;simp_all
  |_=>cases h
theorem vIx {α:Type}{p:Nat→α→Prop}:∀n,(∀i,i<n→∃x,p i x)→∃xs:List α,xs.length=n∧∀i h,p i xs[i]
 |0,_=>by simp
 |n+1,h=>by
  obtain⟨xs,h1,h2⟩:=vIx n fun i hi=>h i (by omega)
  obtain⟨x,hx⟩:=h n (by omega);refine⟨xs++[x],by simp[h1],fun i hi=>?_⟩;grind
def jC (l:List Nat):Prop:=l.all (· ≤reachBytes)=true
theorem qb {l m}:jC (l++m)↔jC l∧jC m:=by simp[jC]
theorem yPm {P e}{d:DataW H}:∀{l},jC (DataW.weightsAll P e l)→d∈l→jC (d.weights P e)
 |a::l,h,hd=>by
  have h:=qb.1 h;rcases List.mem_cons.1 hd with rfl|hd
  ·exact h.1
  ·exact yPm h.2 hd
theorem vFp {P e}:∀{ts} {ds:List (DataW H)},(∀t∈ts,t=e)→jC (DataW.weightsAll P e ds)→jC (DataW.weightsEach P ts ds)
 |t::ts,d::ds,ht,h=>by
  have h:=qb.1 h;rw[ht t (by simp)];exact qb.2 ⟨h.1,vFp (by grind) h.2⟩
 |[],_,_,_=>by simp[DataW.weightsEach,jC]
 |_::_,[],_,_=>by rfl
def Pv (P:Program)(w:World)(ty:Ty)(cs:List Value):Prop:=∃x:ty.den,cs.length=ty.size∧qF w.heap (Kr w) ty x (fun j=>cs[j]?)∧Wf ty x
theorem yTs {d fuel}(ih:∀t ty cs x,pc P d t=some ty→DataW.trod enc P w 0 (fun _=>true) true fuel t cs=some x→jC (x.1.weights P t)→Pv P w ty cs):
  ∀l off ty (cs:List Value) out,Kq (pc P d) off l=some ty→off+ty.size≤cs.length→
   (l.mapM fun p=>DataW.trod enc P w 0 (fun _=>true) true fuel p.2 ((cs.drop p.1).take (P.cellsOf p.2)))=some out→jC (DataW.weightsEach P (l.map (·.2)) (out.map (·.1)))→Pv P w ty ((cs.drop off).take ty.size)
 |[x],off,ty,cs,out,h,hc,hm,hw=>by
  obtain⟨h1,h2⟩:=wP h;have ho:x.1=off:=by simpa using h1
  simp only[List.mapM_cons,List.mapM_nil,Option.pure_def,Option.bind_eq_bind,Option.bind_eq_some_iff] at hm;obtain⟨y,hy,_,e,e'⟩:=hm;cases e;cases e';rw[ho,Xi h2] at hy;exact ih _ _ _ _ h2 hy (qb.1 hw).1
 |x::y::l,off,ty,cs,out,h,hc,hm,hw=>by
  obtain⟨h1,h2⟩:=wP h;have ho:x.1=off:=by simpa using h1
  split at h2
  ·rename_i a ha;split at h2
   ·rename_i b hb;cases h2;simp only[Ty.size] at hc⊢;rw[List.mapM_cons] at hm;simp only[Option.pure_def,Option.bind_eq_bind,Option.bind_eq_some_iff] at hm;obtain⟨z,hz,zs,hzs,e⟩:=hm;cases e;rw[ho,Xi ha] at hz;have hw:=qb.1 hw;obtain⟨p,p1,p2,p3⟩:=ih _ _ _ _ ha hz hw.1;obtain⟨q,q1,q2,q3⟩:=yTs ih (y::l) (off+a.size) b cs zs hb (by omega) hzs hw.2;refine⟨(p,q),by simp only[List.length_take,List.length_drop,Ty.size];omega,⟨?_,?_⟩,p3,q3⟩
    ·refine vD (fun _ h=>h) (by simp) a p _ _ (fun j hj=>?_) p2;simp only[List.getElem?_take,List.getElem?_drop];rw[if_pos (by omega),if_pos hj]
    grind
   ·cases h2
  ·cases h2
theorem Xk:∀d t ty fuel cs x,pc P d t=some ty→DataW.trod enc P w 0 (fun _=>true) true fuel t cs=some x→jC (x.1.weights P t)→Pv P w ty cs
 |0,_,_,_,_,_,h,_,_=>by cases h
 |d+1,t,ty,0,cs,x,_,h,_=>by simp[DataW.trod] at h
 |d+1,t,ty,fuel+1,cs,x,hl,h,hw=>by
  unfold pc at hl;split at hl
  ·rename_i k hu;obtain⟨_,hl⟩:=wP hl;cases hl;obtain⟨n,rfl,_,xy⟩:=DataW.trod_int hu h;exact⟨n,rfl,rfl,xy⟩
  ·rename_i hu;obtain⟨_,hl⟩:=wP hl;cases hl;obtain⟨b,rfl,_⟩:=DataW.trod_bool hu h;exact⟨b,rfl,rfl,trivial⟩
  ·rename_i e hu;obtain⟨j8,hl⟩:=wP hl;rw[Bool.and_eq_true] at j8;have j8:=Nat.le_of_ble_eq_true j8.2;split at hl
   ·rename_i a ha;cases hl;rcases DataW.trod_slice hu h with⟨rfl,_⟩|⟨ad,len,cap,elems,rest,n,hn,rfl,rfl,_,U2,hm,hel,hg,_,_⟩
    ·refine⟨([]:List a.den),rfl,?_,?_⟩
     ·simp only[qF];exact⟨none,0,0,rfl,rfl,Nat.le_refl _,.inl ⟨trivial,fun _=>rfl⟩⟩
     ·simp only[Wf];exact by simp
    ·unfold DataW.weights at hw;rw[hu] at hw;have hw:jC ([((elems.map (·.1)).length+(rest.map (·.1)).length)*P.bytesOf e]++(DataW.weightsAll P e (elems.map (·.1))++DataW.weightsAll P e (rest.map (·.1)))):=hw;obtain⟨sC,hw⟩:=qb.1 hw;have hw2:=(qb.1 hw).1;have hlen:len≤reachBytes:=by
      simp only[jC,List.all_cons,List.all_nil,Bool.and_true,decide_eq_true_eq,List.length_map] at sC;have:=Nat.mul_le_mul_left (elems.length+rest.length) j8;omega
     have key:∀i,i<len→∃x:a.den,(qF w.heap (Kr w) a x (fun j=>yX w.heap ad.block (ad.off+i*a.size+j))∧(i=0→ad.spot=none)∧ad.block<w.heap.size)∧Wf a x:=by
      intro i hi;have h1:=hg i hi;have Wp:i<elems.length:=by omega
      rw[List.getElem?_eq_getElem Wp,Option.bind_eq_some_iff] at h1;obtain⟨cs,nT,htr⟩:=h1;rw[Xi ha] at nT;obtain⟨y,y1,y2,y3⟩:=Xk d e a n cs _ ha htr (yPm hw2 (by grind));obtain⟨c1,c2⟩:=Xj nT;have BB:∀j,((ad.add (i*a.size)).add j).block=ad.block∧((ad.add (i*a.size)).add j).off=ad.off+i*a.size+j:=by
       intro j;unfold Addr.add;constructor
       ·split<;>split<;>rfl
       ·split<;>split<;>simp_all
      have at0:(i=0→ad.spot=none)∧ad.block<w.heap.size:=by
       obtain⟨v,_,hv⟩:=c2 0 a.size_pos;have h1:=yXo hv;refine⟨fun h0=>?_,by have:=h1.2.1;rwa [(BB 0).1] at this⟩;have h2:=h1.1;subst h0
       simpa[Addr.add] using h2
      refine⟨y,⟨vD (fun _ h=>h) (fun _ _=>rfl) a y _ _ (fun j hj=>?_) y2,at0⟩,y3⟩;obtain⟨v,v1,v2⟩:=c2 j hj;rw[v1];have h1:=(yXo v2).2.2
      rwa [(BB j).1,(BB j).2] at h1
     obtain⟨xs,x1,x2⟩:=vIx len key;refine⟨xs,rfl,?_,?_⟩
     ·simp only[qF];refine⟨some ad,len,cap,rfl,x1.symm,U2,?_⟩;by_cases h0:xs=[]
      ·exact by grind
      ·refine .inr ⟨ad.block,ad.off,?_,?_,fun i hi=>(x2 i hi).1.1⟩
       ·have:=(x2 0 (List.length_pos_iff.2 h0)).1.2.1 rfl;cases ad;simp at this;rw[this]
       ·exact by grind
     ·simp only[Wf];exact by grind
   ·cases hl
  ·rename_i y n1 n2 n3 hu;split at hl
   ·rename_i a ha;obtain⟨dH,hl⟩:=wP hl;cases hl;have dH:P.cellsOf t=ty.size:=by simpa using dH
    have fin:∀out,cs.length=P.cellsOf t→((sB P y).mapM fun p=>DataW.trod enc P w 0 (fun _=>true) true fuel p.2 ((cs.drop p.1).take (P.cellsOf p.2)))=some out→jC (DataW.weightsEach P ((sB P y).map (·.2)) (out.map (·.1)))→Pv P w ty cs:=by
     intro out hlen kJ hw;have:=yTs (fun t' ty' aS x' h1 h2 h3=>Xk d t' ty' fuel aS x' h1 h2 h3) (sB P y) 0 ty cs out ha (by omega) kJ hw
     rwa [List.drop_zero,List.take_of_length_le (by omega)] at this
    unfold DataW.trod at h;rw[hu] at h;cases y with
    |struct fs=>
     dsimp only at h;split at h
     ·rename_i hlen;rw[Option.map_eq_some_iff] at h;obtain⟨out,ho,rfl⟩:=h;unfold DataW.weights at hw;rw[hu] at hw;refine fin out hlen ?_ (by rw[sB,List.map_map];exact hw);simp only[sB,List.mapM_map];exact ho
     ·cases h
    |array n e=>
     dsimp only at h;split at h
     ·rename_i hlen;rw[Option.map_eq_some_iff] at h;obtain⟨out,ho,rfl⟩:=h;unfold DataW.weights at hw;rw[hu] at hw;refine fin out hlen ?_ (vFp (fun t ht=>by simp[sB] at ht;exact ht.2.symm) hw);simp only[sB,List.mapM_map];exact ho
     ·cases h
    |_=>simp[sB,Kq] at ha
   ·cases hl
  ·cases hl
end
open Go.ChangeShapes Go.WideShapes Go.ChangeAt Go.RowKit
def uq (sh:Bool):Ty→List PC
 |.int k=>[.int k]
 |.bool=>[.bool]
 |.sl t=>[.dat sh t]
 |.pair a b=>uq sh a++uq sh b
def xz:(l m:List PC)→PL l→PL m→PL (l++m)
 |[],_,_,e=>e
 |_::l,m,d,e=>(d.1,xz l m d.2 e)
theorem Xl:∀l m d e,wB (l++m) (xz l m d e)=wB l d++wB m e
 |[],_,_,_=>rfl
 |p::l,m,d,e=>by
  show EA p d.1::wB (l++m) (xz l m d.2 e)=EA p d.1::(wB l d.2++wB m e);rw[Xl l m d.2 e]
def sD sh:(t:Ty)→t.den→PL (uq sh t)
 |.int _,n=>(n,())
 |.bool,b=>(b,())
 |.sl _,xs=>(xs,())
 |.pair a b,p=>xz _ _ (sD sh a p.1) (sD sh b p.2)
def WfP:(p:PC)→p.den→Prop
 |.int k,n=>(Lit.int k n).wf=true
 |.bool,_=>True
 |.dat _ t,xs=>Wf (.sl t) xs
 |.fn _,_=>True
 |.nil,_=>True
 |.nilp,_=>True
def ur:(l:List PC)→PL l→Prop
 |[],_=>True
 |p::l,d=>WfP p d.1∧ur l d.2
theorem Xm:∀l m d e,ur l d→ur m e→ur (l++m) (xz l m d e)
 |[],_,_,_,_,h=>h
 |_::l,m,d,e,h,h'=>⟨h.1,Xm l m d.2 e h.2 h'⟩
theorem Xn sh:∀t x,Wf t x→ur (uq sh t) (sD sh t x)
 |.int _,_,h
 |.bool,_,h
 |.sl _,_,h=>⟨h,trivial⟩
 |.pair a b,p,h=>Xm _ _ _ _ (Xn sh a p.1 h.1) (Xn sh b p.2 h.2)
theorem Pw:∀l d,(wB l d).length=l.length
 |[],_=>rfl
 |p::l,d=>by
  show(wB l d.2).length+1=l.length+1;rw[Pw l d.2]
def M0 (w:World):zL:=⟨fun _=>none,Kr w,Kr w,mj [],w.heap⟩
theorem vLb w:Ok (M0 w) where
 obj:=nofun
 non:=fun _ _=>rfl
 disj:=fun i j oi oj Ci Cj b _ h=>by cases h
 own:=nofun
 GF:=fun _ h=>h
 Flt:=fun _ h=>h
theorem Xo sh {w}:∀t x cs,cs.length=t.size→qF w.heap (Kr w) t x (fun j=>cs[j]?)→zP (zZ (M0 w)) (wB (uq sh t) (sD sh t x)) cs
 |.int k,n,cs,hl,h=>by
  match cs,hl with
  |[c],_=>
   have e:c=.int k n:=by simpa[qF] using h
   exact⟨e,trivial⟩
 |.bool,b,cs,hl,h=>by
  match cs,hl with
  |[c],_=>
   have e:c=.bool b:=by simpa[qF] using h
   exact⟨e,trivial⟩
 |.sl t,xs,cs,hl,h=>by
  match cs,hl with
  |[c],_=>
   refine⟨?_,trivial⟩;have h':=vD (F':=(bif sh then(M0 w).G else(M0 w).F)) (fun b h=>by cases sh<;>exact h) (fun b _=>rfl) (.sl t) xs (fun j=>[c][j]?) (fun _=>some c) (by grind) h;exact h'
 |.pair a b,p,cs,hl,h=>by
  have dL:cs.length=a.size+b.size:=hl;have h1:=Xo sh a p.1 (cs.take a.size) (by grind) (vD (fun _ h=>h) (by simp) a p.1 _ _ (by grind) h.1);have h2:=Xo sh b p.2 (cs.drop a.size) (by grind) (vD (by simp) (fun _ _=>rfl) b p.2 _ _ (by grind) h.2);show zP _ (wB (uq sh a++uq sh b) (xz _ _ (sD sh a p.1) (sD sh b p.2))) cs;rw[Xl];have:=zP.append h1 h2;simp_all
def sE (sh : Bool) (P : Program) (t : TypeId) (ty : Ty) : AS := bif eK P t == some true then .agg (uq sh ty) else (match ty with
 |.int k=>.c (.int k)|.bool=>.c .bool|.sl t=>.c (.dat sh t)|.pair a b=>.agg (uq sh (.pair a b)))
def Px (P:Program):List TypeId→Option (List Ty)
 |[]=>some []
 |t::ts=>match pc P 8 t,Px P ts with
  |some a,some l=>some (a::l)
  |_,_=>none
def uu (sh:Bool)(P:Program):List TypeId→List Ty→List AS
 |t::ts,a::l=>sE sh P t a::uu sh P ts l
 |_,_=>[]
theorem vPt {P t ty}(h:pc P 8 t=some ty)(ha:(eK P t==some true)=false):(∃k,P.underlying t=some (.int k)∧ty=.int k)∨(P.underlying t=some .bool∧ty=.bool)∨∃e a,P.underlying t=some (.slice e)∧ty=.sl a:=by
 unfold pc at h;split at h
 ·grind
 ·grind
 ·grind
 ·rename_i x _ _ _ hu;split at h
  ·rename_i a hx;unfold eK at ha;rw[hu] at ha;cases x<;>first|(simp[sB,Kq] at hx;done)|(cases ha)
  ·cases h
 ·cases h
section
variable {H:Type} {enc:TypeId×Value→H} {P:Program} {w:World}
theorem Xp sh {t ty v d ps base}(hl:pc P 8 t=some ty)(fR:Value.okWide P w .any base t v)(h:DataW.Trod enc P w 0 (fun _=>true) true t v d ps)(hw:jC (d.weights P t)):
  ∃x:PL (sE sh P t ty).cells,(∀n,zX (M0 w) ((sE sh P t ty).mk n (wB _ x)) v)∧(sE sh P t ty).boxes (wB _ x)=[]∧ur _ x:=by
 obtain⟨fuel,hf⟩:=h;obtain⟨x,x1,x2,x3⟩:=Xk 8 t ty fuel _ _ hl hf hw;have dv:=Xo sh ty x _ x1 x2;have EG:=Xn sh ty x x3;unfold sE;cases ha:(eK P t==some true) with
 |true=>
  refine⟨sD sh ty x,fun n=>?_,rfl,EG⟩;have rZ:eK P t=some true:=by simp_all
  have hv:∃cs,v=.agg cs:=by
   unfold eK at rZ;unfold Value.okWide at fR;grind
  obtain⟨cs,rfl⟩:=hv;exact⟨cs,rfl,dv⟩
 |false=>
  rcases vPt hl ha with⟨k,hu,rfl⟩|⟨hu,rfl⟩|⟨e,a,hu,rfl⟩
  ·have hv:∃n,v=.int k n:=by
    simp[Value.okWide,Cell.okWide] at fR;cases v<;>simp_all[Cell.ok]
   obtain⟨n0,rfl⟩:=hv;exact⟨sD sh _ x,fun n=>dv.1,rfl,EG⟩
  ·have hv:∃b,v=.bool b:=by
    simp[Value.okWide,Cell.okWide] at fR;cases v<;>simp_all[Cell.ok]
   obtain⟨b,rfl⟩:=hv;exact⟨sD sh _ x,fun n=>dv.1,rfl,EG⟩
  ·obtain⟨ad,len,cap,rfl⟩:=okWide_slice hu fR;exact⟨sD sh _ x,fun n=>dv.1,rfl,EG⟩
theorem yTv sh {base}:∀ts tys vs ds ps n,Px P ts=some tys→(∀(j:Nat) t v,ts[j]? =some t→vs[j]? =some v→Value.okWide P w .any base t v)→
  DataW.TrodAll enc P w 0 (fun _=>true) true ts vs ds ps→jC (DataW.weightsEach P ts ds)→∃x:AD (uu sh P ts tys),zP (zX (M0 w)) (mi (uu sh P ts tys) (wB _ x) n).1 vs∧(mi (uu sh P ts tys) (wB _ x) n).2=[]∧ur _ x
 |[],tys,vs,ds,ps,n,hl,fR,h,_=>by
  match vs,ds,h with
  |[],[],_=>exact⟨(),trivial,rfl,trivial⟩
 |t::ts,tys,vs,ds,ps,n,hl,fR,h,hw=>by
  unfold Px at hl;split at hl
  ·rename_i a l ha dL;cases hl
   match vs,ds,h with
   |v::vs,d::ds,h=>
    obtain⟨p,q,h1,h2,_⟩:=h;have hw:=qb.1 hw;obtain⟨x,x1,x2,x3⟩:=Xp sh ha (fR 0 t v rfl rfl) h1 hw.1;obtain⟨y,y1,y2,y3⟩:=yTv sh ts l vs ds q n dL (fun j t' v' h1 h2=>fR (j+1) t' v' h1 h2) h2 hw.2;refine⟨xz _ _ x y,?_⟩;have e:wB ((uu sh P (t::ts) (a::l)).flatMap AS.cells) (xz _ _ x y)=wB _ x++wB _ y:=Xl _ _ _ _;have ht:(wB _ x++wB _ y).take (sE sh P t a).cells.length=wB _ x:=by
     rw[List.take_append_of_le_length (by rw[Pw];omega),List.take_of_length_le (by rw[Pw];omega)]
    have hd:(wB _ x++wB _ y).drop (sE sh P t a).cells.length=wB _ y:=by
     rw[List.drop_append_of_le_length (by rw[Pw];exact by simp),List.drop_of_length_le (by grind),List.nil_append]
    rw[e];have em:mi (uu sh P (t::ts) (a::l)) (wB _ x++wB _ y) n=((sE sh P t a).mk n (wB _ x)::(mi (uu sh P ts l) (wB _ y) n).1,(mi (uu sh P ts l) (wB _ y) n).2):=by
     show((sE sh P t a).mk n _::_,(sE sh P t a).boxes _++_)=_;simp_all
    rw[em];exact⟨⟨x1 n,y1⟩,y2,Xm _ _ _ _ x3 y3⟩
  ·cases hl
theorem yXe {us}{gs:List (DataW H)}:∀{ts ds},ts.length=ds.length→jC (DataW.weightsEach P (ts++us) (ds++gs))→jC (DataW.weightsEach P ts ds)
 |[],[],_,_=>by rfl
 |t::ts,d::ds,hl,h=>qb.2 ⟨(qb.1 h).1,yXe (by simp_all) (qb.1 h).2⟩
theorem yQp:∀{ts vs ds ps},DataW.TrodAll enc P w 0 (fun _=>true) true ts vs ds ps→ts.length=ds.length
 |[],[],[],_,_=>rfl
 |_::_,_::_,_::_,_,⟨_,_,_,h,_⟩=>by rw[List.length_cons,List.length_cons,yQp h]
theorem lawArgs sh {base ts tys asp vs ds ps}(hl:Px P ts=some tys)(has:uu sh P ts tys=asp)
  (fR:∀(j:Nat) t v,ts[j]? =some t→vs[j]? =some v→Value.okWide P w .any base t v) (h:DataW.TrodAll enc P w 0 (fun _=>true) true ts vs ds ps) {us gs} (hw:jC (DataW.weightsEach P (ts++us) (ds++gs))):
  ∃x:AD asp,zP (zX (M0 w)) (mi asp (wB _ x) 0).1 vs∧(mi asp (wB _ x) 0).2=[]∧ur _ x:=by
 subst has;exact yTv sh ts tys vs ds ps 0 hl fR h (yXe (yQp h) hw)
theorem law_calls {E}(hE:gy E)(hS:kb E.sums)(hm:E.P.follows .mixedOrders=true){A k pre f fn}(hf:E.P.funcs[f]? =some fn)(hL:∀c,fn.body=some c→wN E.P A pre 0 fn.ntmps c)
  {as d unpack} (hup:∀d,unpack d=d.1) (aV:kE E A k pre 0 fn (pY as d).1 (pY as d).2 (nc (.c .bool) unpack)=some true) (hb:(mi as (wB _ d) 0).2=[]) {vs} (hv:zP (zX (M0 w)) (mi as (wB _ d) 0).1 vs.toList):
  Calls E.P f vs w fun e w'=>e=.returned (.bool true)∧Below w.heap.size w w':=by
 have hh:(M0 w).h=(pY as d).2:=by
  show mj []=mj (mi as (wB _ d) 0).2;rw[hb]
 refine Calls.mono (WJ hE hS hm hf hL aV (M:=M0 w) (w:=w) hh rfl (vLb w) hv) fun e w' he=>?_
 cases e with
 |returned rv=>
  obtain⟨M',v,st,hK,_,hH,_,hg,_,hrv,o1,o2,o3,_⟩:=he;refine⟨?_,o1,o2,o3,?_,fun b hb=>?_⟩
  ·unfold nc at hK;split at hK
   ·rename_i r hr;unfold Kl at hr;split at hr
    ·rename_i cs nT;split at hr
     ·rename_i aS u Ec;cases v with
      |c x=>
       cases nT;have e1:aS=[x]:=by
        simp[RS.cells,RC.isFro,gA] at Ec;simp_all
       subst e1;have sg:kO (qJ st.h u) [.bool] [x]=some r:=hr;cases x with
       |bool b=>
        have e2:r=(b,()):=by simp[kO,pZ] at sg;grind
        have:rv=.bool b:=hrv;grind
       |_=>simp[kO,pZ] at sg
      |_=>cases nT
     ·cases hr
    ·cases hr
   ·cases hK
  ·have:=hg.size;rw[hH] at this;exact this
  ·have:=hg.same b hb;rw[hH] at this;exact this
 |_=>simp_all
end
inductive XC where
 |p (c:PC)|own (t:Ty)|mat|map
 |link (j:Nat)
abbrev XC.den:XC→Type
 |.p c=>c.den|.own t=>List t.den|.mat=>List (List Int)|.map=>List (Int×Bool)|.link _=>Unit
def XC.lnk:XC→Option Nat
 |.link j=>some j
 |_=>none
def RC.lnk:RC→Option Nat
 |.link j=>some j
 |_=>none
def sF:List (Option Nat)→List Nat→List qC→Bool
 |none::l,ids,_::cs=>sF l ids cs
 |some j::l,ids,.ptr id 0::cs=>(match ids[j]? with|some k=>Nat.beq id k|none=>false)&&sF l ids cs
 |some _::_,_,_=>false
 |_,_,_=>true
def BC:List (Option Nat)→List Nat→List qC→List qC
 |none::l,ids,c::cs=>c::BC l ids cs
 |some j::l,ids,c::cs=>(match ids[j]? with|some id=>.ptr id 0|none=>c)::BC l ids cs
 |_,_,cs=>cs
def Xq:List qC→Option Nat
 |[]=>none
 |.ptr id 0::_=>some id
 |_::l=>Xq l
def Ks (h:Hp):Nat→Nat→Option (List Nat)
 |0,_=>none
 |1,id=>some [id]
 |n+2,id=>match Ez h id with
  | some cells => (match Xq cells with
   |some id2=>(match Ks h (n+1) id2 with|some l=>some (id::l)|none=>none)
   |none=>none)
  |none=>none
def mn:Nat→Nat→List Nat
 |_,0=>[]
 |n,m+1=>n::mn (n+1) m
abbrev XL:List XC→Type
 |[]=>Unit
 |c::l=>c.den×XL l
inductive AX where
 |c (x:XC)|agg (l:List PC)|ptr (io:Bool) (l:List XC)|fn (f:Nat) (bA:List (Bool×List XC))
 |chn (ls:List (List XC))
def AX.cells:AX→List XC
 |.c x=>[x]
 |.agg l=>l.map .p
 |.ptr _ l=>l
 |.fn _ bA=>bA.flatMap (·.2)
 |.chn ls=>ls.flatten
def AX.nb:AX→Nat
 |.ptr _ _=>1
 |.fn _ bA=>bA.length
 |.chn ls=>ls.length
 |_=>0
def AX.isChn:AX→Bool
 |.chn _=>true
 |_=>false
def EH (ls:List (List XC)):List (Bool×List XC):=ls.map fun l=>(true,l)
abbrev XD (l:List AX):Type:=XL (l.flatMap AX.cells)
def AX.looks:AX→Bool
 |.ptr _ _=>true
 |.fn _ _=>true
 |_=>false
def uv (l:List AX)(na:Nat):Bool:=l.zipIdx.all fun p=> !p.1.looks||Nat.blt p.2 na
def EI (h:Hp)(io:Bool)(id:Nat):Option (List qC):=match io,h id with
 |true,some (.box true cells)=>some cells
 |false,some (.box _ cells)=>some cells
 |false,some (.robox cells)=>some cells
 |_,_=>none
def kf (h:Hp):List (Bool×List XC)→List Nat→Option (List qC×List (Bool×Nat))
 |[],[]=>some ([],[])
 |(io,l)::ls,id::ids=>match EI h io id,kf h ls ids with
  |some cells,some (rest,bs)=>bif Nat.beq cells.length l.length then some (cells++rest,(io,id)::bs) else none
  |_,_=>none
 |_,_=>none
def AX.get (h:Hp):AX→zY→Option (List qC×List (Bool×Nat))
 |.c _,.c x=>some ([x],[])
 |.agg l,.agg xs=>bif Nat.beq xs.length l.length then some (xs,[]) else none
 |.ptr io l,.c (.ptr id 0)=>kf h [(io,l)] [id]
 |.fn f bA,.c (.fn g ids)=>bif Nat.beq f g then kf h bA ids else none
 |.chn ls,.c (.ptr id 0)=>match Ks h ls.length id with
  |some ids=>kf h (EH ls) ids
  |none=>none
 |_,_=>none
def kP (h:Hp):List AX→List zY→Option (List qC×List (Bool×Nat))
 |[],[]=>some ([],[])
 |s::l,a::as=>match s.get h a,kP h l as with
  |some (cs,bs),some (aS,BD)=>some (cs++aS,bs++BD)
  |_,_=>none
 |_,_=>none
def Kt (h:Hp):(x:XC)→qC→Option x.den
 |.p p,c=>um h p c
 |.own t,.osl id none=>match h id with
  |some (.arr true s xs)=>im s t xs
  |_=>none
 |.mat,.osl id none=>match h id with
  |some (.mat _ xs)=>some xs
  |_=>none
 |.map,.map id=>match h id with
  |some (.imap df)=>some df
  |_=>none
 |.link _,.ptr _ 0=>some ()
 |_,_=>none
def qc (h:Hp):(l:List XC)→List qC→Option (XL l)
 |[],[]=>some ()
 |x::l,c::cs=>match Kt h x c,qc h l cs with
  |some d,some ds=>some (d,ds)
  |_,_=>none
 |_,_=>none
def jN:List XC→List qC→List Nat
 |.p _::l,_::cs=>jN l cs
 |.link _::l,_::cs=>jN l cs
 |_::l,.osl id _::cs=>id::jN l cs
 |_::l,.map id::cs=>id::jN l cs
 |_::l,_::cs=>jN l cs
 |_,_=>[]
def Ku:List XC→List qC→List Nat
 |.p _::l,c::cs=>vL c++Ku l cs
 |_::l,_::cs=>Ku l cs
 |_,_=>[]
def wQ:Nat:=500
def iy:(l:List XC)→XL l→Nat→List qC×List Obj
 |[],_,_=>([],[])
 |.p p::l,d,n=>let r:=iy l d.2 n;(EA p d.1::r.1,r.2)
 |.own t::l,d,n=>let r:=iy l d.2 (n+1);(.osl n none::r.1,.arr true t d.1::r.2)
 |.mat::l,d,n=>let r:=iy l d.2 (n+1);(.osl n none::r.1,.mat 0 d.1::r.2)
 |.map::l,d,n=>let r:=iy l d.2 (n+1);(.map n::r.1,.imap d.1::r.2)
 |.link j::l,d,n=>let r:=iy l d.2 n;(.ptr j 0::r.1,r.2)
def Kv:List (Bool×List XC)→List qC→List Obj
 |[],_=>[]
 |(io,l)::ls,cs=>(bif io then .box true (cs.take l.length) else .robox (cs.take l.length))::Kv ls (cs.drop l.length)
def AX.mk (n:Nat)(cs:List qC):AX→zY
 |.c _=>match cs with|x::_=>.c x|[]=>.undef
 |.agg _=>.agg cs
 |.ptr _ _=>.c (.ptr n 0)
 |.fn f bA=>.c (.fn f ((List.range bA.length).map (n+·)))
 |.chn _=>.c (.ptr n 0)
def AX.boxes (cs:List qC):AX→List Obj
 |.ptr io l=>Kv [(io,l)] cs
 |.fn _ bA=>Kv bA cs
 |.chn ls=>Kv (EH ls) cs
 |_=>[]
def BE:List AX→List qC→Nat→List zY×List Obj
 |[],_,_=>([],[])
 |s::l,cs,n=>
  let aq:=cs.take s.cells.length;let bs:=s.boxes aq;let rest:=BE l (cs.drop s.cells.length) (n+bs.length)
  (s.mk n aq::rest.1,bs++rest.2)
def Kw (bs rows:List Obj):Hp:=fun n=>bif Nat.ble wQ n then rows[n-wQ]? else bs[n]?
def kQ l (d:XD l):List zY×Hp:=
 let r:=iy (l.flatMap AX.cells) d wQ;let m:=BE l r.1 0
 (m.1,Kw m.2 r.2)
def Kx:List (Bool×List XC)→List Nat→Option (List Nat)
 |[],[]=>some []
 |(io,_)::ls,id::ids=>match Kx ls ids with
  |some l=>some (bif io then id::l else l)
  |none=>none
 |_,_=>none
def AX.io (b:Nat):AX→zY→Option (List Nat)
 |.c _,_=>some []
 |.agg _,_=>some []
 |.ptr io l,.c (.ptr id 0)=>Kx [(io,l)] [id]
 |.fn _ bA,.c (.fn _ ids)=>Kx bA ids
 |.chn ls,_=>some (mn b ls.length)
 |_,_=>none
def Py:List AX→(Nat→zY)→Nat→Nat→Option (List Nat)
 |[],_,_,_=>some []
 |s::l,t,n,b=>match s.io b (t n),Py l t (n+1) (b+s.nb) with
  |some a,some b=>some (a++b)
  |_,_=>none
def EJ (h:Hp):List (List RC)→List Nat→Option (List qC)
 |[],[]=>some []
 |o::os,n::ns=>match h n,EJ h os ns with
  |some (.box true cells),some rest=>bif Nat.beq cells.length o.length then some (cells++rest) else none
  |_,_=>none
 |_,_=>none
def Xr (h:Hp)(ns:Nat)(cs:List qC):Option (List Nat):=bif Nat.beq ns 0 then some [] else match Xq cs with
 |some id=>Ks h ns id
 |none=>none
def xA (st:St)(as:List AX)(rs:RS)(os:List (List RC))(ns:Nat)(v:zY):Option (RL (rs.cells++os.flatten)):=
 match Py as st.t 0 0 with
 |none=>none
 |some io=>match rs.get v with
  |none=>none
  |some cs=>match Xr st.h ns cs with
   |none=>none
   |some nw=>match EJ st.h os (io++nw) with
    |none=>none
    | some bs => bif tM (io ++ nw) then (match gA st.h ((rs.cells++os.flatten).map RC.isFro) (cs++bs) with
     |some (cs,u)=>bif tM (wL (rs.cells++os.flatten) cs)&&sF ((rs.cells++os.flatten).map RC.lnk) (io++nw) cs then kO (qJ st.h u) (rs.cells++os.flatten) cs else none
     |none=>none) else none
def Ky (as:List AX)(rs:RS)(os:List (List RC))(ns:Nat){X:Type}(unpack:RL (rs.cells++os.flatten)→X)(v:zY)(st:St):Option X:=match xA st as rs os ns v with
 |some d=>some (unpack d)
 |none=>none
def Pz (as:List AX)(rs:RS)(os:List (List RC))(ns:Nat)(dw:RS)(dy:List (List RC))(fE:Nat){X Y:Type}(up:RL (rs.cells++os.flatten)→X)(lD:RL (dw.cells++dy.flatten)→Y)(v:zY)(st:St):Option (X⊕Y):=match xA st as rs os ns v with
 |some d=>some (.inl (up d))
 |none=>match xA st as dw dy fE v with
  |some d=>some (.inr (lD d))
  |none=>none
def xB:List (List RC)→List qC→List (List qC)
 |[],_=>[]
 |o::os,cs=>cs.take o.length::xB os (cs.drop o.length)
def vT:List (Bool×Nat)→List Nat
 |[]=>[]
 |(true,id)::l=>id::vT l
 |(false,_)::l=>vT l
def PA:List (Bool×Nat)→List Nat
 |[]=>[]
 |(true,_)::l=>PA l
 |(false,id)::l=>id::PA l
def EK:List Nat→List (List qC)→vG
 |id::ids,cs::css=>(id,.box true cs)::EK ids css
 |_,_=>[]
def qd (ids:List Nat):vG:=ids.map fun id=>(id,.gone)
def Xs (nm:Nat)(rs:RS)(os:List (List RC))(ids:List Nat)(d:RL (rs.cells++os.flatten)):zY×vG:=
 let r:=oZ nm (rs.cells++os.flatten) d;let cs:=BC ((rs.cells++os.flatten).map RC.lnk) ids r.1
 (rs.mk (cs.take rs.cells.length),r.2++EK ids (xB os (cs.drop rs.cells.length)))
def Xt (a b:List Nat):Bool:=a.all fun x=> !b.any (Nat.beq x)
def xC (h:Hp):AX→zY→Option (zY×vG)
 |.c (.p p),.c x=>match gA h [p.isKept] [x] with
  |some ([x],u)=>some (.c x,u)
  |_=>none
 |.agg l,.agg xs=>match gA h (l.map PC.isKept) xs with
  |some (xs,u)=>some (.agg xs,u)
  |none=>none
 |_,a=>some (a,[])
def sG (h:Hp):List AX→List zY→Option (List zY×vG)
 |s::l,a::as=>match xC h s a,sG h l as with
  |some (a,u),some (as,us)=>some (a::as,u++us)
  |_,_=>none
 |_,as=>some (as,[])
def BF as (nm n:Nat)(args:List zY)(h:Hp):Option (vG×List Nat×List Nat×XD as):=
 match sG h as args with
 |none=>none
 |some (args,u)=>match kP (qJ h u) as args with
  |none=>none
  |some (cs,bs)=>match qc (qJ h u) (as.flatMap AX.cells) cs with
   |none=>none
   |some d=>
    let rows:=jN (as.flatMap AX.cells) cs;let aq:=vT bs++rows
    bif xp h nm n&&Nat.ble n 100&&Nat.ble bs.length wQ&&tM aq&&Xt aq (Ku (as.flatMap AX.cells) cs)&&Xt aq (PA bs)&&sF ((as.flatMap AX.cells).map XC.lnk) (bs.map (·.2)) cs then
     some (u,vT bs,rows,d)
    else none
def Kz (u:vG)(io rows:List Nat)(rs:RS)(os:List (List RC))(ns nm:Nat)(d:RL (rs.cells++os.flatten)):zY×vG:=
 let r:=Xs nm rs os (io++mn (nm+(rs.cells++os.flatten).length) ns) d
 (r.1,u++(qd rows++r.2))
def sH as (rs:RS)(os:List (List RC))(ns:Nat){X}(S:XD as→Option X)(pack:X→RL (rs.cells++os.flatten))(nm:Nat)(args:List zY)(h:Hp):yW:=
 match BF as nm ((rs.cells++os.flatten).length+ns) args h with
 |none=>.stuck
 |some (u,io,rows,d)=>.call X (S d) fun r=>Kz u io rows rs os ns nm (pack r)
def uw as (rs:RS)(os:List (List RC))(ns:Nat)(dw:RS)(dy:List (List RC))(fE:Nat){X Y}(S:XD as→Option (X⊕Y))(pk:X→RL (rs.cells++os.flatten))(iV:Y→RL (dw.cells++dy.flatten))(nm:Nat)(args:List zY)(h:Hp):yW:=
 match BF as nm (((rs.cells++os.flatten).length+ns)+((dw.cells++dy.flatten).length+fE)) args h with
 |none=>.stuck
 |some (u,io,rows,d)=>.call2 X Y (S d) (fun r=>Kz u io rows rs os ns nm (pk r)) (fun r=>Kz u io rows dw dy fE nm (iV r))
def lE (M:zL)(aq:List Nat)(b:Nat):Prop:=∃id∈aq,∃C,M.κ id=some C∧b∈C.fp
structure sJ (M:zL) (aq:List Nat) (Ml:zL):Prop where
 H:Ml.H=M.H
 F:Ml.F=fun b=>b<M.H.size∧¬lE M aq b
 G:Ml.G=M.G
def nW (M:zL)(aq:List Nat):Prop:=∀id∈aq,∃o,M.h id=some o∧o.owned=true
theorem lE.own {M aq}(ho:nW M aq){b}(h:lE M aq b):qN M b:=by
 obtain⟨id,an,C,hC,hb⟩:=h;obtain⟨o,h1,h2⟩:=ho id an;exact⟨id,o,C,h1,h2,hC,hb⟩
theorem ux {M}(ok:Ok M){aq}(ho:nW M aq){b}(h:M.F b):b<M.H.size∧¬lE M aq b:=⟨ok.Flt b h,fun hh=>(ok.own b (hh.own ho)).1 h⟩
theorem yZs {M M'}(ok:Ok M){aq}(ho:nW M aq){id o}(hn:id∉aq)(hh:M'.h=yM M.h id o)(hκ:M'.κ=M.κ)(hH:M'.H=M.H)(gT:Ok M'){b}(h:M'.G b):b<M.H.size∧¬lE M aq b:=by
 have hf:=gT.GF b h;refine⟨by have:=gT.Flt b hf;simp_all,fun hd=>?_⟩;obtain⟨jd,hj,C,hC,hb⟩:=hd;obtain⟨q,h1,h2⟩:=ho jd hj;refine(gT.own b ⟨jd,q,C,?_,h2,?_,hb⟩).1 hf
 ·rw[hh,yY _ _ (by grind)];exact h1
 simp_all
theorem Xu {M}(ok:Ok M){aq}(ho:nW M aq){c v t xs}(hn:∀id∈vL c,id∉aq)(hv:zZ M c v)(h:kC M.h c=some ⟨t,xs⟩):
  qF M.H (fun b=>b<M.H.size∧¬lE M aq b) (.sl t) xs (fun _=>some v):=by
 unfold kC at h;split at h
 ·rename_i sh s ys;cases h;cases sh with
  |true=>exact vD (fun b hb=>ux ok ho (ok.GF b hb)) (by simp) _ _ _ _ (fun _ _=>rfl) hv
  |false=>exact vD (fun b hb=>ux ok ho hb) (by simp) _ _ _ _ (fun _ _=>rfl) hv
 ·rename_i id r;have pO:id∉aq:=hn id (by simp[vL]);split at h
  ·rename_i own s ys an;cases h;cases own with
   |false=>
    obtain⟨C,hC,hO⟩:=ok.obj _ _ an;exact vD (fun b hb=>ux ok ho (ok.GF b hb)) (by simp) _ _ _ _ (by simp) (A4 hC hO hv)
   |true=>
    obtain⟨M',h1,h2,h3,h4,h5⟩:=yF6 ok an;obtain⟨C,hC,hO⟩:=h3.obj id _ (by rw[h2];exact yV _ _ _);have:=A4 hC hO (hv.ext h4.ext);exact vD (fun b hb=>yZs ok ho pO h2 h5 h1 h3 hb) (by grind) _ _ _ _ (by simp) this
  ·rename_i ver ys an;cases r with
   |some p=>cases h
   |none=>
    cases h;obtain⟨M',h1,h2,h3,h4,h5⟩:=ySo ok an;obtain⟨C,hC,hO⟩:=h3.obj id _ (by rw[h2];exact yV _ _ _);have:=A4 (r:=none) hC hO (hv.ext h4.ext);exact vD (fun b hb=>yZs ok ho pO h2 h5 h1 h3 hb) (by grind) _ _ _ _ (by simp) this
  ·cases h
 ·rename_i id i ver;have pO:id∉aq:=hn id (by simp[vL]);split at h
  ·rename_i v' ys an;cases fS:Nat.beq v' ver with
   |false=>rw[fS] at h;cases h
   |true=>
    rw[fS] at h;cases h;have e:v'=ver:=by simpa using fS
    subst e;obtain⟨C,hC,hO⟩:=ok.obj _ _ an;obtain⟨C',aF,bR,_,aT⟩:=hv;rw[hC] at aF;cases aF;obtain⟨rb,rl,xj,so⟩:=aT hO.1;by_cases hi:i<ys.length
    ·obtain⟨B,pP,v2,k1,k2,k3,k4,k5,k6⟩:=D7 hO hi;rw[xj] at k3;cases k3;rw[show ys.getD i []=ys[i] by simp[List.getD,hi]];simp only[qF];cases rb with
     |none=>
      obtain⟨rfl,h0⟩:=so;grind
     |some R=>
      obtain⟨a,c,rfl,h1,h2,h3⟩:=so;refine⟨_,_,c,rfl,rfl,h1,?_⟩;by_cases h0:ys[i].length=0
      ·simp_all
      ·have ha:a=0:=by omega
       subst ha;have hR:R∈C.fp:=by
        simp only[qE.fp,List.mem_append,List.mem_filterMap];grind
       refine .inr ⟨R,0,rfl,⟨?_,fun hd=>?_⟩,fun j hj=>?_⟩
       ·have:=k6 R rfl 0 (by omega);unfold yX at this;grind
       ·obtain⟨jd,hj,D,hD,hb⟩:=hd;obtain⟨q,q1,q2⟩:=ho jd hj;exact ok.disj jd id q _ D C R (by grind) q1 an q2 rfl hD hC hb hR
       ·simp only[qF,Ty.size,Nat.zero_add,Nat.mul_one,Nat.add_zero];exact by grind
    ·have:C.rows[i]? =none:=List.getElem?_eq_none (by have:=hO.2.2.2.1;omega);simp_all
  ·cases h
 ·cases h
def TrX (M:zL)(aq:List Nat)(c c':qC):Prop:=∀v Ml,sJ M aq Ml→zZ M c v→zZ Ml c' v
theorem vRe {M}(ok:Ok M){aq}(ho:nW M aq){p c d}(hn:∀id∈vL c,id∉aq)(h:um M.h p c=some d):TrX M aq c (EA p d):=by
 intro v Ml lo hv;unfold um at h;split at h
 ·rename_i k j n;cases e:gq j k with
  |false=>simp_all
  |true=>rw[e] at h;cases h;rw[←tI e];exact hv
 ·cases h;exact hv
 ·show qF Ml.H Ml.F _ _ _;rw[lo.H,lo.F];unfold Bv at h;split at h
  ·cases h;rw[show v=.slice none 0 0 from hv];exact Km
  ·split at h
   ·rename_i s ys hr;obtain⟨e,hx⟩:=lA h;subst e;subst hx;exact Xu ok ho hn hv hr
   ·cases h
 ·obtain⟨e,hx⟩:=lA h;subst e;subst hx;show qF Ml.H Ml.G _ _ _;rw[lo.H,lo.G];exact hv
 ·cases h;rw[show v=.slice none 0 0 from hv];exact Km
 ·rename_i f g;cases e:Nat.beq f g with
  |false=>simp_all
  |true=>
   have:f=g:=by simp_all
   subst this;obtain⟨cv,rfl,hc⟩:=hv;refine⟨cv,rfl,?_⟩;generalize cv.toList=l at hc;cases l with
   |nil=>trivial
   |cons _ _=>exact hc.elim
 ·exact hv
 ·exact hv
 ·cases h
def sK (M:zL)(aq:List Nat)(κ:Nat→Option qE)(c c':qC):Prop:=∀v Ml,sJ M aq Ml→Ml.κ=κ→zZ M c v→zZ Ml c' v
structure Xv (M:zL) (id:Nat) (o:Obj) (C:qE):Prop where
 κ:M.κ id=some C
 rep:∀Ml:zL,Ml.H=M.H→Ml.G=M.G→vA Ml o {C with ver:=0}
 own:o.owned=true
 was:∃q,M.h id=some q∧q.owned=true
theorem Xw {M Ml}(hH:Ml.H=M.H){df C}(h:vA M (.imap df) C):vA Ml (.imap df) {C with ver:=0}:=by
 obtain⟨B,es,ck,h1,h2,h3,h4,h5⟩:=h;exact⟨B,es,ck,h1,h2,by simp_all,h4,h5⟩
theorem vJz {j l ids c cs}(h:sF (some j::l) ids (c::cs)=true):∃id,c=.ptr id 0∧ids[j]? =some id∧sF l ids cs=true:=by
 cases c with
 |ptr id off=>
  cases off with
  |zero=>
   have h:((match ids[j]? with|some k=>Nat.beq id k|none=>false)&&sF l ids cs)=true:=h;rw[Bool.and_eq_true] at h;have h1:=h.1;split at h1;all_goals simp_all
  |succ _=>cases h
 |_=>cases h
theorem EL {M}(ok:Ok M){aq}(ho:nW M aq){κ}:∀{l cs d n ids},qc M.h l cs=some d→sF (l.map XC.lnk) ids cs=true→(∀id∈Ku l cs,id∉aq)→
  (jN l cs).length=(iy l d n).2.length∧(∀(i:Nat) id o,(jN l cs)[i]? =some id→(iy l d n).2[i]? =some o→∃C,Xv M id o C)∧
   ((∀i id C,(jN l cs)[i]? =some id→M.κ id=some C→κ (n+i)=some {C with ver:=0})→(∀j id,ids[j]? =some id→κ j=M.κ id)→zP (sK M aq κ) cs (iy l d n).1)
 |[],[],_,n,_,_,_,_=>⟨rfl,nofun,fun _ _=>trivial⟩
 |x::l,c::cs,d,n,ids,h,hl,hn=>by
  unfold qc at h;split at h
  ·rename_i y ys h1 h2;cases h;cases x with
   |p p=>
    have pf:∀id∈vL c,id∉aq:=fun id an=>hn id (List.mem_append_left _ an)
    obtain⟨k1,k2,k3⟩:=EL ok ho (κ:=κ) (n:=n) (ids:=ids) h2 hl (fun id an=>hn id (List.mem_append_right _ an));exact⟨k1,k2,fun hκ hj=>⟨fun v Ml lo _ hv=>vRe ok ho pf h1 v Ml lo hv,k3 hκ hj⟩⟩
   |own t=>
    cases c with
    |osl id r=>
     cases r with
     |some _=>cases h1
     |none=>
      have h1:(match M.h id with|some (.arr true s xs)=>im s t xs|_=>none)=some y:=h1;split at h1
      ·rename_i s xs an;obtain⟨e,hx⟩:=lA h1;subst e;subst hx;obtain⟨C,hC,hO⟩:=ok.obj id _ an;obtain⟨k1,k2,k3⟩:=EL ok ho (κ:=κ) (n:=n+1) (ids:=ids) h2 hl hn;refine⟨by simp only[jN,iy,List.length_cons,k1],fun i jd o hi lX=>?_,fun hκ hj=>⟨fun v Ml lo hk hv=>?_,k3 (fun i jd D hi hD=>?_) hj⟩⟩
       ·cases i with
        |zero=>
         cases hi;cases lX;refine⟨C,hC,fun Ml e1 e2=>?_,rfl,_,an,rfl⟩;obtain⟨q1,q2,q3,q4⟩:=hO;refine⟨q1,q2,q3,?_⟩;rw[e1,e2];exact q4
        |succ i=>exact k2 i jd o hi lX
       ·obtain⟨D,hD,hS⟩:=hv;rw[hC] at hD;cases hD;refine⟨{C with ver:=0},by rw[hk];exact hκ 0 id C rfl hC,?_⟩;rw[lo.H];exact hS
       ·have:=hκ (i+1) jd D hi hD;rw[←this];congr 1;omega
      ·cases h1
    |_=>cases h1
   |mat=>
    cases c with
    |osl id r=>
     cases r with
     |some _=>cases h1
     |none=>
      have h1:(match M.h id with|some (.mat _ xs)=>some xs|_=>none)=some y:=h1;split at h1
      ·rename_i ver xs an;cases h1;obtain⟨C,hC,hO⟩:=ok.obj id _ an;obtain⟨k1,k2,k3⟩:=EL ok ho (κ:=κ) (n:=n+1) (ids:=ids) h2 hl hn;refine⟨by simp only[jN,iy,List.length_cons,k1],fun i jd o hi lX=>?_,fun hκ hj=>⟨fun v Ml lo hk hv=>?_,k3 (fun i jd D hi hD=>?_) hj⟩⟩
       ·cases i with
        |zero=>
         cases hi;cases lX;refine⟨C,hC,fun Ml e1 e2=>?_,rfl,_,an,rfl⟩;obtain⟨q1,q2⟩:=hO;refine⟨rfl,?_⟩;rw[e1];exact q2
        |succ i=>exact k2 i jd o hi lX
       ·obtain⟨D,hD,hS⟩:=hv;rw[hC] at hD;cases hD;refine⟨{C with ver:=0},by rw[hk];exact hκ 0 id C rfl hC,?_⟩;show jE Ml.H {C with ver:=0} 0 C.len v;rw[lo.H];exact hS
       ·have:=hκ (i+1) jd D hi hD;rw[←this];congr 1;omega
      ·cases h1
    |_=>cases h1
   |map=>
    cases c with
    |map id=>
     have h1:(match M.h id with|some (.imap df)=>some df|_=>none)=some y:=h1;split at h1
     ·rename_i df an;cases h1;obtain⟨C,hC,hO⟩:=ok.obj id _ an;obtain⟨k1,k2,k3⟩:=EL ok ho (κ:=κ) (n:=n+1) (ids:=ids) h2 hl hn;refine⟨by simp only[jN,iy,List.length_cons,k1],fun i jd o hi lX=>?_,fun hκ hj=>⟨fun v Ml lo hk hv=>?_,k3 (fun i jd D hi hD=>?_) hj⟩⟩
      ·cases i with
       |zero=>
        cases hi;cases lX;exact⟨C,hC,fun Ml e1 e2=>Xw e1 hO,rfl,_,an,rfl⟩
       |succ i=>exact k2 i jd o hi lX
      ·obtain⟨D,B,hD,hB,e⟩:=hv;rw[hC] at hD;cases hD;exact⟨{C with ver:=0},B,by rw[hk];exact hκ 0 id C rfl hC,hB,e⟩
      ·have:=hκ (i+1) jd D hi hD;rw[←this];congr 1;omega
     ·cases h1
    |_=>cases h1
   |link j=>
    obtain⟨id,rfl,an,dL⟩:=vJz hl;obtain⟨k1,k2,k3⟩:=EL ok ho (κ:=κ) (n:=n) (ids:=ids) h2 dL hn;refine⟨k1,k2,fun hκ hj=>⟨fun v Ml lo hk hv=>?_,k3 hκ hj⟩⟩;obtain⟨C,B,hC,hB,e⟩:=hv;exact⟨C,B,by rw[hk,hj j id an];exact hC,hB,e⟩
  ·cases h
 |[],_::_,_,_,_,h,_,_=>by cases h
 |_::_,[],_,_,_,h,_,_=>by cases h
theorem KA {M Ml aq}(lo:sJ M aq Ml):∀{cs aS vs},zP (sK M aq Ml.κ) cs aS→zP (zZ M) cs vs→zP (zZ Ml) aS vs
 |[],[],[],_,_=>trivial
 |_::_,_::_,_::_,h,k=>⟨h.1 _ _ lo rfl k.1,KA lo h.2 k.2⟩
def EM (aq:List Nat)(bs:List (Bool×Nat)):Prop:=∀b∈bs,(b.1=true→b.2∈aq)∧(b.1=false→b.2∉aq)
theorem Xx {M}(ok:Ok M){aq}(ho:nW M aq){io id cells}(h:EI M.h io id=some cells)(hm:(io=true→id∈aq)∧(io=false→id∉aq)):
  ∃C B,M.κ id=some C∧C.blk=some B∧∀Ml bF,sJ M aq Ml→zP (sK M aq Ml.κ) cells bF→vA Ml (bif io then .box true bF else .robox bF) C:=by
 unfold EI at h;split at h
 ·rename_i cs an;cases h;obtain⟨C,hC,B,vals,e,h1,h2,h3,h4,h5⟩:=ok.obj id _ an;exact⟨C,B,hC,h1,fun Ml bF lo ht=>⟨B,vals,e,h1,h2,by rw[lo.H];exact h3,KA lo ht h4,by simp⟩⟩
 ·rename_i own cs an;cases h;obtain⟨C,hC,B,vals,e,h1,h2,h3,h4,h5⟩:=ok.obj id _ an;refine⟨C,B,hC,h1,fun Ml bF lo ht=>⟨B,vals,e,h1,h2,by rw[lo.H];exact h3,KA lo ht h4,?_⟩⟩;rw[lo.F];cases own with
  |false=>exact ux ok ho (ok.GF B (h5 rfl))
  |true=>
   refine⟨by grind,fun hd=>?_⟩;obtain⟨jd,hj,D,hD,hb⟩:=hd;obtain⟨q,q1,q2⟩:=ho jd hj;exact ok.disj jd id q _ D C B (by grind) q1 an q2 rfl hD hC hb (by simp[qE.fp,h1])
 ·rename_i cs an;cases h;obtain⟨C,hC,B,vals,e,h1,h2,h3,h4,h5⟩:=ok.obj id _ an;refine⟨C,B,hC,h1,fun Ml bF lo ht=>⟨B,vals,e,h1,h2,by rw[lo.H];exact h3,KA lo ht h4,?_⟩⟩;rw[lo.F];exact ux ok ho h5
 ·cases h
def Xy (M:zL)(aq:List Nat)(bs:List (Bool×Nat))(mk:List qC→List Obj)(cs:List qC):Prop:=∀(Ml:zL) (aS:List qC),sJ M aq Ml→zP (sK M aq Ml.κ) cs aS→
 zP (fun(b:Bool×Nat) o=>∃C B,M.κ b.2=some C∧C.blk=some B∧vA Ml o C∧o.owned=b.1) bs (mk aS)
theorem PB {M}(ok:Ok M){aq}(ho:nW M aq):∀{ls ids cs bs},kf M.h ls ids=some (cs,bs)→EM aq bs→
  cs.length=(ls.flatMap (·.2)).length∧bs=(ls.map (·.1)).zip ids∧ids.length=ls.length∧Xy M aq bs (Kv ls) cs
 |[],[],cs,bs,h,_=>by cases h;exact⟨rfl,rfl,rfl,fun _ _ _ _=>trivial⟩
 |(io,l)::ls,id::ids,cs,bs,h,hf=>by
  unfold kf at h;split at h
  ·rename_i cells rest BD h1 h2;obtain⟨hl,h⟩:=wP h;cases h;have hl:cells.length=l.length:=Nat.eq_of_beq_eq_true hl;obtain⟨C,B,hC,hB,hO⟩:=Xx ok ho h1 (hf _ (List.mem_cons_self ..));obtain⟨k1,k2,k3,k4⟩:=PB ok ho h2 fun b hb=>hf b (by grind)
   refine⟨by simp_all,by simp_all,by simp[k3],fun Ml aS lo ht=>?_⟩;have o9:=zP.take l.length ht;have nS:=zP.drop l.length ht;rw[←hl,List.drop_left] at nS;refine⟨⟨C,B,hC,hB,?_,?_⟩,?_⟩
   ·simp_all
   ·cases io<;>rfl
   ·rw[←hl];exact k4 Ml _ lo nS
  ·cases h
theorem KB {h}:∀{ls ids cs bs},kf h ls ids=some (cs,bs)→bs.length=ls.length
 |[],[],_,_,e=>by cases e;rfl
 |(io,l)::ls,id::ids,cs,bs,e=>by
  unfold kf at e;split at e
  ·rename_i cells rest BD h1 h2;obtain⟨_,e⟩:=wP e;cases e;simp[KB h2]
  ·cases e
theorem Xz {h}{s:AX}{a cs bs}(e:s.get h a=some (cs,bs)):bs.length=s.nb:=by
 unfold AX.get at e;split at e
 ·cases e;rfl
 ·obtain⟨_,e⟩:=wP e;cases e;rfl
 ·rw[KB e];rfl
 ·obtain⟨_,e⟩:=wP e;rw[KB e];rfl
 ·split at e
  ·rw[KB e];simp[EH,AX.nb]
  ·cases e
 ·cases e
theorem XA {h}:∀{n id ids},Ks h n id=some ids→ids.head? =some id∧ids.length=n
 |1,_,_,e=>by cases e;simp
 |n+2,id,ids,e=>by
  unfold Ks at e;split at e
  ·split at e
   ·split at e
    ·rename_i l hl;cases e;exact⟨rfl,by simp[(XA hl).2]⟩
    ·cases e
   ·cases e
  ·cases e
theorem vTq {M}(ok:Ok M){aq}(ho:nW M aq){s:AX}{a v cs bs}(hv:zX M a v)(h:s.get M.h a=some (cs,bs))(hf:EM aq bs):
  cs.length=s.cells.length∧Xy M aq bs (fun aS=>s.boxes aS) cs∧∀Ml aS n,sJ M aq Ml→zP (sK M aq Ml.κ) cs aS→(∀i b,bs[i]? =some b→Ml.κ (n+i)=M.κ b.2)→zX Ml (s.mk n aS) v:=by
 unfold AX.get at h;split at h
 ·cases h;refine⟨rfl,fun Ml aS lo ht=>trivial,fun Ml aS n lo ht _=>?_⟩
  match aS,ht with
  |[c'],ht=>exact ht.1 v Ml lo rfl hv
 ·rename_i l xs;obtain⟨hl,h'⟩:=wP h;cases h';have hl:cs.length=l.length:=Nat.eq_of_beq_eq_true hl;obtain⟨vs,rfl,hx⟩:=hv;exact⟨by simp[AX.cells,hl],fun Ml aS lo ht=>trivial,fun Ml aS n lo ht _=>⟨vs,rfl,KA lo ht hx⟩⟩
 ·rename_i io l id;obtain⟨k1,k2,k3,k4⟩:=PB ok ho h hf;refine⟨by rw[k1];simp[AX.cells],k4,fun Ml aS n lo ht hκ=>?_⟩;obtain⟨C,B,hC,hB,e⟩:=hv;exact⟨C,B,by have:=hκ 0 (io,id) (by rw[k2];rfl);simp_all,hB,e⟩
 ·rename_i f bA g ids;obtain⟨hg,h'⟩:=wP h;have WU:f=g:=Nat.eq_of_beq_eq_true hg;subst WU;obtain⟨k1,k2,k3,k4⟩:=PB ok ho h' hf;refine⟨by rw[k1];rfl,k4,fun Ml aS n lo ht hκ=>?_⟩;obtain⟨cv,rfl,hc⟩:=hv;refine⟨cv,rfl,?_⟩;have l2:=hc.length;refine zP.of_get (by simp_all) fun i h1 h2=>?_
  have hi:i<ids.length:=by omega
  obtain⟨C,B,q1,q2,q3⟩:=hc.get i hi h2;have hb:bs[i]? =some ((bA.map (·.1))[i]'(by simp at h1⊢;omega),ids[i]):=by
   grind
  grind
 ·rename_i ls id;split at h
  ·rename_i ids kI;obtain⟨k1,k2,k3,k4⟩:=PB ok ho h hf;refine⟨by rw[k1];simp[AX.cells,EH,List.flatMap_map],k4,fun Ml aS n lo ht hκ=>?_⟩;obtain⟨C,B,hC,hB,e⟩:=hv;have hb:bs[0]? =some (true,id):=by
    obtain⟨h1,h2⟩:=XA kI;rw[k2];cases ids with
    |nil=>cases h1
    |cons i ids=>
     cases h1;cases ls with
     |nil=>cases k3
     |cons l ls=>rfl
   exact⟨C,B,by grind,hB,e⟩
  ·cases h
 ·cases h
theorem vHg {M}(ok:Ok M){aq}(ho:nW M aq):∀{l as vs cs bs},zP (zX M) as vs→kP M.h l as=some (cs,bs)→EM aq bs→
  cs.length=(l.flatMap AX.cells).length∧(∀n,Xy M aq bs (fun aS=>(BE l aS n).2) cs)∧
   ∀Ml aS n,sJ M aq Ml→zP (sK M aq Ml.κ) cs aS→(∀i b,bs[i]? =some b→Ml.κ (n+i)=M.κ b.2)→zP (zX Ml) (BE l aS n).1 vs
 |[],[],[],cs,bs,_,h,_=>by cases h;exact⟨rfl,fun _ _ _ _ _=>trivial,fun _ _ _ _ _ _=>trivial⟩
 |s::l,a::as,v::vs,cs,bs,hv,h,hf=>by
  unfold kP at h;split at h
  ·rename_i mX bs1 cs2 bs2 h1 h2;cases h;have hf1:EM aq bs1:=fun b hb=>hf b (by grind)
   have hf2:EM aq bs2:=fun b hb=>hf b (by grind)
   obtain⟨k1,k2,k3⟩:=vTq ok ho hv.1 h1 hf1;obtain⟨k4,k5,k6⟩:=vHg ok ho hv.2 h2 hf2;have cut:∀{κ:Nat→Option qE} {aS:List qC},zP (sK M aq κ) (mX++cs2) aS→zP (sK M aq κ) mX (aS.take s.cells.length)∧zP (sK M aq κ) cs2 (aS.drop s.cells.length):=by
    intro κ aS ht;have o9:=zP.take s.cells.length ht;have nS:=zP.drop s.cells.length ht;simp_all
   refine⟨by simp_all,fun n Ml aS lo ht=>?_,fun Ml aS n lo ht hκ=>?_⟩
   ·obtain⟨o9,nS⟩:=cut ht;exact(k2 Ml _ lo o9).append (k5 _ Ml _ lo nS)
   ·obtain⟨o9,nS⟩:=cut ht;have hlen:=(k2 Ml _ lo o9).length;refine⟨k3 Ml _ n lo o9 fun i b hb=>hκ i b ?_,k6 Ml _ _ lo nS fun i b hb=>?_⟩
    ·grind
    ·have:=hκ (bs1.length+i) b (by grind);grind
  ·cases h
def κX (M : zL) (bs : List (Bool × Nat)) (rows : List Nat) : Nat → Option qE := fun n => bif Nat.ble wQ n then (match rows[n-wQ]? with
  |some id=>(M.κ id).map fun C=>{C with ver:=0}
  |none=>none)
 else (match bs[n]? with
  |some b=>M.κ b.2
  |none=>none)
theorem BG:∀{bs} {i id:Nat},bs[i]? =some (true,id)→id∈vT bs
 |(true,a)::bs,0,id,h=>by cases h;exact List.mem_cons_self ..
 |(true,a)::bs,i+1,id,h=>List.mem_cons_of_mem _ (BG (bs:=bs) (i:=i) h)
 |(false,a)::bs,i+1,id,h=>BG (bs:=bs) (i:=i) h
theorem XB:∀{bs} {i j id:Nat},(vT bs).Nodup→bs[i]? =some (true,id)→bs[j]? =some (true,id)→i=j
 |(true,a)::bs,0,0,id,_,_,_=>rfl
 |(true,a)::bs,0,j+1,id,hn,h,k=>by
  cases h;exact absurd (BG (bs:=bs) (i:=j) k) (List.nodup_cons.1 hn).1
 |(true,a)::bs,i+1,0,id,hn,h,k=>by
  cases k;exact absurd (BG (bs:=bs) (i:=i) h) (List.nodup_cons.1 hn).1
 |(true,a)::bs,i+1,j+1,id,hn,h,k=>by rw[XB (bs:=bs) (List.nodup_cons.1 hn).2 h k]
 |(false,a)::bs,i+1,j+1,id,hn,h,k=>by rw[XB (bs:=bs) hn h k]
theorem vYb {M}(ok:Ok M){l as vs cs bs}{d:XD l}(hv:zP (zX M) as vs)(hg:kP M.h l as=some (cs,bs))(hd:qc M.h (l.flatMap AX.cells) cs=some d)
  (dJ:(vT bs++jN (l.flatMap AX.cells) cs).Nodup) (su:∀id∈Ku (l.flatMap AX.cells) cs,id∉vT bs++jN (l.flatMap AX.cells) cs) (hro:∀id∈PA bs,id∉vT bs++jN (l.flatMap AX.cells) cs) (hlen:bs.length≤wQ) (uy:sF ((l.flatMap AX.cells).map XC.lnk) (bs.map (·.2)) cs=true) (ho:nW M (vT bs++jN (l.flatMap AX.cells) cs)):
  ∃Ml:zL,sJ M (vT bs++jN (l.flatMap AX.cells) cs) Ml∧Ml.h=(kQ l d).2∧Ok Ml∧(∀b,qN Ml b→lE M (vT bs++jN (l.flatMap AX.cells) cs) b)∧zP (zX Ml) (kQ l d).1 vs∧Ml.κ=κX M bs (jN (l.flatMap AX.cells) cs):=by
 generalize iz:vT bs++jN (l.flatMap AX.cells) cs=aq at*
 have xD:EM aq bs:=by
  intro b hb;obtain⟨i,hi,rfl⟩:=List.getElem_of_mem hb;have JE:bs[i]? =some bs[i]:=List.getElem?_eq_getElem hi;refine⟨fun e=>?_,fun e=>?_⟩
  ·rw[←iz];have:bs[i]? =some (true,bs[i].2):=by rw[JE,←e]
   exact List.mem_append_left _ (BG this)
  ·apply hro;clear hg hd dJ su hro hlen ho iz hv uy
   induction bs generalizing i with
   |nil=>exact absurd hi (Nat.not_lt_zero i)
   |cons c bs ih=>
    obtain⟨io,a⟩:=c;cases i with
    |zero=>cases io<;>first|exact List.mem_cons_self .. |cases e
    |succ i=>cases io<;>first|exact List.mem_cons_of_mem _ (by grind)|exact ih i (by simpa using hi) (List.getElem_mem _) (List.getElem?_eq_getElem _) e
 let κ:=κX M bs (jN (l.flatMap AX.cells) cs);obtain⟨k1,k2,k3⟩:=EL ok ho (κ:=κ) (n:=wQ) (ids:=bs.map (·.2)) hd uy su;have ht : zP (sK M aq κ) cs (iy (l.flatMap AX.cells) d wQ).1 := k3 (fun i id C hi hC=>by
  show κX M bs _ (wQ+i)=_;unfold κX;rw[Nat.ble_eq_true_of_le (Nat.le_add_right _ _),show wQ+i-wQ=i by omega,hi];simp[hC]) fun j id hj=>by
  rw[List.getElem?_map] at hj;obtain⟨b,hb,rfl⟩:=Option.map_eq_some_iff.1 hj;have hi:j<bs.length:=by grind
  show κX M bs _ j=_;unfold κX;have:Nat.ble wQ j=false:=by
   cases h:Nat.ble wQ j with
   |false=>rfl
   |true=>have:=Nat.le_of_ble_eq_true h;omega
  rw[this,hb];rfl
 obtain⟨a1,a2,a3⟩:=vHg ok ho hv hg xD;let Ml:zL:={κ:=κ,F:=fun b=>b<M.H.size∧¬lE M aq b,G:=M.G,h:=(kQ l d).2,H:=M.H};have lo:sJ M aq Ml:=⟨rfl,rfl,rfl⟩;have BH:=a2 0 Ml _ lo ht;have hκbox:∀i b,bs[i]? =some b→Ml.κ (0+i)=M.κ b.2:=fun i b hb=>by
  have hi:i<bs.length:=by grind
  show κX M bs _ (0+i)=_;unfold κX;have:Nat.ble wQ (0+i)=false:=by
   cases h:Nat.ble wQ (0+i) with
   |false=>rfl
   |true=>have:=Nat.le_of_ble_eq_true h;omega
  rw[this,Nat.zero_add,hb];rfl
 have mq:∀id o,Ml.h id=some o→∃jd C,Ml.κ id=some C∧vA Ml o C∧(o.owned=true→jd∈aq∧∃D,M.κ jd=some D∧D.fp=C.fp)∧
   ((Nat.ble wQ id=true∧(jN (l.flatMap AX.cells) cs)[id-wQ]? =some jd)∨(Nat.ble wQ id=false∧∃io,bs[id]? =some (io,jd)∧o.owned=io)):=by
  intro id o h;have h:Kw (BE l (iy (l.flatMap AX.cells) d wQ).1 0).2 (iy (l.flatMap AX.cells) d wQ).2 id=some o:=h;unfold Kw at h;cases hb:Nat.ble wQ id with
  |true=>
   rw[hb] at h;have h:(iy (l.flatMap AX.cells) d wQ).2[id-wQ]? =some o:=h;have hi:=(List.getElem?_eq_some_iff.1 h).1;have hj:(jN (l.flatMap AX.cells) cs)[id-wQ]? =some ((jN (l.flatMap AX.cells) cs)[id-wQ]'(by omega)):=by simp
   obtain⟨C,hR⟩:=k2 _ _ _ hj h;refine⟨_,{C with ver:=0},?_,hR.rep Ml rfl rfl,fun _=>⟨?_,C,hR.κ,rfl⟩,.inl ⟨rfl,hj⟩⟩
   ·show κX M bs _ id=_;unfold κX;rw[hb,hj];simp[hR.κ]
   ·rw[←iz];exact by simp
  |false=>
   rw[hb] at h;have hi:=(List.getElem?_eq_some_iff.1 h).1;have XE:id<bs.length:=by rw[BH.length];exact hi
   have hq:=BH.get id XE hi;rw[List.getElem?_eq_getElem hi] at h;cases h;obtain⟨C,B,q1,q2,q3,q4⟩:=hq;have JE:bs[id]? =some bs[id]:=List.getElem?_eq_getElem XE;refine⟨bs[id].2,C,?_,q3,fun e=>⟨(xD _ (List.getElem_mem XE)).1 (by rw[←q4];exact e),C,q1,rfl⟩,by grind⟩;have:=hκbox id _ JE;rw[Nat.zero_add] at this;rw[this];exact q1
 have aN:∀b,qN Ml b→lE M aq b:=fun b ⟨id,o,C,h1,h2,h3,h4⟩=>by
  obtain⟨jd,C',q1,_,q3,_⟩:=mq id o h1;rw[h3] at q1;cases q1;obtain⟨p1,D,p2,p3⟩:=q3 h2;exact⟨jd,p1,D,p2,by rw[p3];exact h4⟩
 refine⟨Ml,lo,rfl,⟨fun id o h=>?_,fun id h=>?_,fun i j oi oj Ci Cj b mT h1 h2 h3 h4 h5 h6 h7 h8=>?_,fun b hb=>⟨fun hf=>hf.2 (aN b hb),(ok.own b ((aN b hb).own ho)).2⟩,fun b hb=>ux ok ho (ok.GF b hb),fun b hb=>hb.1⟩,aN,a3 Ml _ 0 lo ht hκbox,rfl⟩
 ·obtain⟨jd,C,q1,q2,_⟩:=mq id o h;exact⟨C,q1,q2⟩
 ·have h:Kw (BE l (iy (l.flatMap AX.cells) d wQ).1 0).2 (iy (l.flatMap AX.cells) d wQ).2 id=none:=h;unfold Kw at h;show κX M bs _ id=none;unfold κX;cases hb:Nat.ble wQ id with
  |true=>
   rw[hb] at h;have h:(iy (l.flatMap AX.cells) d wQ).2[id-wQ]? =none:=h;rw[List.getElem?_eq_none_iff,←k1] at h;rw[List.getElem?_eq_none h];rfl
  |false=>
   rw[hb] at h;have h:(BE l (iy (l.flatMap AX.cells) d wQ).1 0).2[id]? =none:=h;rw[List.getElem?_eq_none_iff,←BH.length] at h;rw[List.getElem?_eq_none h];rfl
 ·obtain⟨ji,Ci',p1,_,p3,p4⟩:=mq i oi h1;obtain⟨jj,Cj',q1,_,q3,q4⟩:=mq j oj h2;rw[h5] at p1;cases p1;rw[h6] at q1;cases q1;obtain⟨p5,Di,p6,p7⟩:=p3 h3;obtain⟨q5,Dj,q6,q7⟩:=q3 h4;obtain⟨oi',r1,r2⟩:=ho ji p5;obtain⟨oj',r3,r4⟩:=ho jj q5;refine ok.disj ji jj oi' oj' Di Dj b (fun e=>?_) r1 r3 r2 r4 p6 q6 (by rw[p7];exact h7) (by rw[q7];exact h8);subst e;rw[←iz] at dJ;obtain⟨n1,n2,n3⟩:=List.nodup_append.1 dJ;rcases p4 with⟨p8,p9⟩|⟨p8,io,p9,uz⟩<;>rcases q4 with⟨q8,q9⟩|⟨q8,io',q9,PD⟩
  ·have:=(List.getElem?_inj (by grind) n2).1 (p9.trans q9.symm);have e1:=Nat.le_of_ble_eq_true p8;have e2:=Nat.le_of_ble_eq_true q8;exact mT (by omega)
  ·rw[h4] at PD;subst PD;exact n3 _ (BG q9) _ (List.mem_of_getElem? p9) rfl
  ·rw[h3] at uz;subst uz;exact n3 _ (BG p9) _ (List.mem_of_getElem? q9) rfl
  ·rw[h3] at uz;rw[h4] at PD;subst uz;subst PD;exact mT (XB n1 p9 q9)
theorem xE {n}:∀{ids h},qJ h (qd ids) n=if n∈ids then some .gone else h n
 |[],_=>by rfl
 |id::ids,h=>by
  show qJ (yM h id .gone) (qd ids) n=_;rw[xE (ids:=ids)];by_cases e:n=id
  ·subst e;simp[yV]
  ·rw[yY _ _ e];simp[e]
def zL.overX (M L:zL)(aq:List Nat):zL:={κ:=M.κ,F:=fun b=>M.F b∨L.G b,G:=L.G,h:=qJ M.h (qd aq),H:=L.H}
theorem zL.overX_ok {M Ml L aq}(ok:Ok M)(iU:Ok L)(lo:sJ M aq Ml)(ho:nW M aq)(hand:∀b,qN Ml b→lE M aq b)(g:ke Ml L):
  Ok (M.overX L aq)∧yR M (M.overX L aq)∧(∀b,qN (M.overX L aq) b→qN M b∧¬lE M aq b):=by
 have cU:∀b,b<M.H.size→¬lE M aq b→L.H[b]? =M.H[b]? :=fun b hb hn=>by rw[g.same b (by rw[lo.F];simp_all),lo.H]
 have dH:M.H.size≤L.H.size:=by have:=g.size;rw[lo.H] at this;exact this
 have hG:∀b,L.G b→b<M.H.size→M.G b∨lE M aq b:=fun b hb hs=>by
  rcases g.Gb b hb (by rw[lo.H];exact hs) with h|h
  ·rw[lo.G] at h;simp_all
  simp_all
 have hsF:∀b,M.F b→L.H[b]? =M.H[b]? :=fun b h=>cU b (ux ok ho h).1 (ux ok ho h).2
 have x:yT M (M.overX L aq):=⟨fun id C h=>⟨C,h,C.le_refl⟩,fun b h=>.inl h,fun b h=>g.G b (by rw[lo.G];exact h),fun b h=>hsF b h,fun b h=>hsF b (ok.GF b h),fun b h=>by
  have:=g.bsz b (by rw[lo.H];exact h);rw[lo.H] at this;exact this⟩
 have mq:∀id o,(M.overX L aq).h id=some o→o.owned=true→id∉aq∧M.h id=some o:=fun id o h iT=>by
  have h:qJ M.h (qd aq) id=some o:=h;rw[xE] at h;by_cases hm:id∈aq
  ·rw[if_pos hm] at h;cases h;cases iT
  simp_all
 have XF:∀id o C,id∉aq→M.h id=some o→o.owned=true→M.κ id=some C→∀b∈C.fp,¬lE M aq b:=fun id o C hm h iT hC b hb ⟨jd,hj,D,hD,W0⟩=>by
  obtain⟨q,q1,q2⟩:=ho jd hj;exact ok.disj id jd o q C D b (by grind) h q1 iT q2 hC hD hb W0
 have aN:∀b,qN (M.overX L aq) b→qN M b∧¬lE M aq b:=fun b ⟨id,o,C,h1,h2,h3,h4⟩=>by
  obtain⟨k1,k2⟩:=mq id o h1 h2;exact⟨⟨id,o,C,k2,h2,h3,h4⟩,XF id o C k1 k2 h2 h3 b h4⟩
 refine⟨⟨fun id o h=>?_,fun id h=>?_,fun i j oi oj Ci Cj b mT h1 h2 h3 h4 h5 h6 h7 h8=>?_,fun b h=>⟨fun hf=>?_,?_⟩,fun b h=>.inr h,fun b h=>?_⟩,⟨x,dH,fun b hb hn=>cU b hb fun hh=>hn (hh.own ho),by grind,fun b h hs=>?_,fun b h hs=>?_⟩,aN⟩
 ·have h:qJ M.h (qd aq) id=some o:=h;rw[xE] at h;by_cases hm:id∈aq
  ·rw[if_pos hm] at h;cases h;obtain⟨q,q1,q2⟩:=ho id hm;obtain⟨C,hC,_⟩:=ok.obj id q q1;exact⟨C,hC,trivial⟩
  ·rw[if_neg hm] at h;obtain⟨C,hC,hO⟩:=ok.obj id o h;exact⟨C,hC,hO.ext x fun iT b hb=>cU b (ok.own b ⟨id,o,C,h,iT,hC,hb⟩).2 (by grind)⟩
 ·have h:qJ M.h (qd aq) id=none:=h;rw[xE] at h;by_cases hm:id∈aq
  ·simp_all
  ·rw[if_neg hm] at h;exact ok.non id h
 ·exact ok.disj i j oi oj Ci Cj b mT (mq i oi h1 h3).2 (by grind) h3 h4 h5 h6 h7 h8
 ·obtain⟨k1,k2⟩:=aN b h;have:=ok.own b k1;rcases hf with hf|hf
  ·simp_all
  ·rcases hG b hf this.2 with h|h
   ·exact this.1 (ok.GF b h)
   simp_all
 ·have h1:=(ok.own b (aN b h).1).2;show b<L.H.size;omega
 ·show b<L.H.size;rcases h with h|h
  ·have:=ok.Flt b h;omega
  ·exact iU.Flt b (iU.GF b h)
 ·rcases hG b h hs with h|h
  ·simp_all
  ·exact .inr (h.own ho)
 ·rcases h with h|h
  ·simp_all
  ·rcases hG b h hs with h|h
   ·exact .inl (ok.GF b h)
   ·exact .inr (h.own ho)
def qE.bare (C:qE):qE:={C with ver:=C.ver+1,rows:=[]}
def zL.revive (M:zL)(id:Nat)(C:qE)(cs:List qC):zL:={M with κ:=κset M.κ id C.bare,h:=yM M.h id (.box true cs)}
theorem zL.revive_ok {M}(ok:Ok M){id C B vals e cs}(hC:M.κ id=some C)(hB:C.blk=some B)(hH:M.H[B]? =some (.cells vals e (0,0)))(hc:zP (zZ M) cs vals.toList)
  (h1:¬qN M B) (h2:¬M.F B):Ok (M.revive id C cs)∧yT M (M.revive id C cs)∧(∀b,qN (M.revive id C cs) b→qN M b∨b=B):=by
 have hκ:(M.revive id C cs).κ id=some C.bare:=κset_same _ _ _;have x:yT M (M.revive id C cs):=⟨fun jd D h=>by
  by_cases e':jd=id
  ·subst e';rw[hC] at h;cases h;exact⟨_,hκ,rfl,rfl,rfl,Nat.le_succ _,fun h=>absurd h (by simp[qE.bare])⟩
  ·exact⟨D,by show κset M.κ id _ jd=_;rw[κset_ne _ _ e'];exact h,D.le_refl⟩,fun _ h=>h,fun _ h=>h,fun _ _=>rfl,fun _ _=>rfl,fun _ _=>rfl⟩
 have rY:C.bare.fp=[B]:=by simp[qE.fp,qE.bare,hB]
 have Bk:(M.revive id C cs).h id=some (.box true cs):=yV _ _ _;refine⟨Ok.build ok x (fun jd=>jd=id) (fun jd h=>yY _ _ h) (fun jd h=>κset_ne _ _ h) (fun _ _ _ _ _ _ _ _ _=>rfl) (fun jd o' D k1 k2 k3 k4 b bg=>(ok.own b ⟨jd,o',D,k2,k3,k4,bg⟩).1) (Nat.le_refl _)
  (fun jd o' e' h=>?_) (fun jd e' h=>?_) (fun jd o' D b e' k1 k2 k3 k4=>?_) ok.GF ok.Flt,x,fun b bg=>?_⟩
 ·subst e';rw[Bk] at h;cases h;exact⟨_,hκ,B,vals,e,hB,rfl,hH,hc.mono fun _ _ h=>h.ext x,by simp⟩
 ·simp_all
 ·subst e';rw[hκ] at k3;cases k3;rw[rY,List.mem_singleton] at k4;subst k4;refine⟨fun j oj Cj hj q1 q2 q3 q4=>h1 ⟨j,oj,Cj,?_,q2,?_,q4⟩,h2,(Array.getElem?_eq_some_iff.1 hH).1⟩
  ·rw[←q1];exact(yY _ _ hj).symm
  ·rw[←q3];exact(κset_ne _ _ hj).symm
 ·obtain⟨jd,o',D,k1,k2,k3,k4⟩:=bg;by_cases e':jd=id
  ·simp_all
  ·exact .inl ⟨jd,o',D,by rw[←k1];exact(yY _ _ e').symm,k2,by rw[←k3];exact(κset_ne _ _ e').symm,k4⟩
structure yT6 (M:zL) (id:Nat) (cs:List qC) (B:Nat):Prop where
 at':∃C,M.κ id=some C∧C.blk=some B
 rep:∃vals e,M.H[B]? =some (.cells vals e (0,0))∧zP (zZ M) cs vals.toList
 own:¬qN M B
 F:¬M.F B
def pg (R:Nat→List qC→Nat→Prop):List Nat→List (List qC)→List Nat→Prop
 |[],[],[]=>True
 |a::l,b::m,c::n=>R a b c∧pg R l m n
 |_,_,_=>False
theorem pg.mono {R S}:∀{l m n},(∀a b c,c∈n→R a b c→S a b c)→pg R l m n→pg S l m n
 |[],[],[],_,_=>trivial
 |_::_,_::_,_::_,h,k=>⟨h _ _ _ (by simp) k.1,pg.mono (by grind) k.2⟩
theorem yMa:∀{ids css Bs M},Ok M→pg (yT6 M) ids css Bs→Bs.Nodup→
  ∃M':zL,M'.H=M.H∧M'.G=M.G∧M'.F=M.F∧M'.h=qJ M.h (EK ids css)∧Ok M'∧yT M M'∧(∀b,qN M' b→qN M b∨b∈Bs)
 |[],[],[],M,ok,_,_=>⟨M,rfl,rfl,rfl,rfl,ok,.refl M,by simp⟩
 |id::ids,cs::css,B::Bs,M,ok,h,hn=>by
  obtain⟨C,hC,hB⟩:=h.1.at';obtain⟨vals,e,hH,hc⟩:=h.1.rep;obtain⟨k1,k2,k3⟩:=zL.revive_ok ok hC hB hH hc h.1.own h.1.F;obtain⟨n1,n2⟩:=List.nodup_cons.1 hn;obtain ⟨M', a1, a2, a3, a4, a5, a6, a7⟩ := yMa (M := M.revive id C cs) k1 (pg.mono (fun a b c hcB hb=>by
   refine⟨?_,?_,fun ho=>?_,hb.F⟩
   ·obtain⟨D,q1,q2⟩:=hb.at';obtain⟨D',q3,le⟩:=k2.κ _ _ q1;exact⟨D',q3,le.blk.trans q2⟩
   ·obtain⟨vals,e,q1,q2⟩:=hb.rep;exact⟨vals,e,q1,q2.mono fun _ _ h=>h.ext k2⟩
   ·rcases k3 _ ho with h|h
    ·exact hb.own h
    simp_all) h.2) n2
  exact⟨M',a1,a2,a3,a4,a5,yT.trans (M:=M) (M':=M.revive id C cs) (Nat.le_refl _) k2 a6,by grind⟩
theorem vG8:∀{ids css h h'},ids.length=css.length→(∀n,n∉ids→h n=h' n)→qJ h (EK ids css)=qJ h' (EK ids css)
 |[],[],h,h',_,e=>funext fun n=>e n (by simp)
 |id::ids,cs::css,h,h',hl,e=>vG8 (ids:=ids) (css:=css) (by simp_all) fun n hn=>by
   by_cases k:n=id
   ·subst k;rw[yV,yV]
   ·rw[yY _ _ k,yY _ _ k];simp_all
theorem vZs {h0 s a a' v u M}(ok:Ok M)(hf:jG h0 M.h)(hv:zX M a v)(h:xC h0 s a=some (a',u)):
  ∃L:zL,L.H=M.H∧L.h=qJ M.h u∧Ok L∧yR M L∧zX L a' v∧jG h0 L.h:=by
 unfold xC at h;split at h
 ·rename_i p x;split at h
  ·rename_i y u1 e;cases h;obtain⟨L,h1,h2,h3,h4,h5,h6⟩:=xu (cs:=[x]) (vs:=[v]) ok hf ⟨hv,trivial⟩ e;exact⟨L,h1,h2,h3,h4,h5.1,h6⟩
  ·cases h
 ·split at h
  ·rename_i ys u1 e;cases h;obtain⟨vs,rfl,hx⟩:=hv;obtain⟨L,h1,h2,h3,h4,h5,h6⟩:=xu ok hf hx e;exact⟨L,h1,h2,h3,h4,⟨vs,rfl,h5⟩,h6⟩
  ·cases h
 ·cases h;exact⟨M,rfl,rfl,ok,.refl M,hv,hf⟩
theorem yKf {h0}:∀{l as fc vs u M},Ok M→jG h0 M.h→zP (zX M) as vs→sG h0 l as=some (fc,u)→
  ∃L:zL,L.H=M.H∧L.h=qJ M.h u∧Ok L∧yR M L∧zP (zX L) fc vs∧jG h0 L.h
 |s::l,a::as,fc,v::vs,u,M,ok,hf,hv,h=>by
  unfold sG at h;split at h
  ·rename_i a1 u1 W4 sb e1 e2;cases h;obtain⟨M1,h1,h2,h3,h4,h5,h6⟩:=vZs ok hf hv.1 e1;obtain⟨M2,k1,k2,k3,k4,k5,k6⟩:=yKf h3 h6 (xv.ext h4.ext hv.2) e2;exact⟨M2,k1.trans h1,by rw[k2,h2,lz],k3,h4.trans k4,⟨h5.ext k4.ext,k5⟩,k6⟩
  ·cases h
 |[],as,fc,vs,u,M,ok,hf,hv,h=>by
  cases as<;>cases h<;>exact⟨M,rfl,rfl,ok,.refl M,hv,hf⟩
 |s::l,[],fc,vs,u,M,ok,hf,hv,h=>by cases h;exact⟨M,rfl,rfl,ok,.refl M,hv,hf⟩
def mr (M L:zL)(id jd:Nat):Prop:=∃C D B,M.κ id=some C∧C.blk=some B∧L.κ jd=some D∧D.blk=some B
theorem XG {M L}:∀{ls is js out} {us:List Value} {cs bs},kf M.h ls is=some (cs,bs)→Kx ls js=some out→
  zP (fun id u=>∃C B,M.κ id=some C∧C.blk=some B∧u=.pointer (some ⟨B,0,none⟩)) is us→zP (fun id u=>∃C B,L.κ id=some C∧C.blk=some B∧u=.pointer (some ⟨B,0,none⟩)) js us→zP (mr M L) (vT bs) out
 |[],[],[],out,us,cs,bs,h,k,_,_=>by cases h;cases k;exact trivial
 |(io,l)::ls,i::is,j::js,out,u::us,cs,bs,h,k,p,q=>by
  unfold kf at h;split at h
  ·rename_i cells rest BD h1 h2;obtain⟨_,h⟩:=wP h;cases h;unfold Kx at k;split at k
   ·rename_i o ho;cases k;have ih:=XG h2 ho p.2 q.2;cases io with
    |false=>exact ih
    |true=>
     obtain⟨C,B,k1,k2,k3⟩:=p.1;obtain⟨D,B',k4,k5,k6⟩:=q.1;rw[k3] at k6;cases k6;exact⟨⟨C,D,B,k1,k2,k4,k5⟩,ih⟩
   ·cases k
  ·cases h
theorem vKk {M L}:∀{bs n},(∀q∈bs,q.1=true)→(∀i q,bs[i]? =some q→mr M L q.2 (n+i))→zP (mr M L) (vT bs) (mn n bs.length)
 |[],n,_,_=>trivial
 |(true,id)::bs,n,h,k=>⟨k 0 _ rfl,vKk (by grind) fun i q hq=>by
   have:=k (i+1) q hq;grind⟩
 |(false,id)::bs,n,h,k=>by simp_all
theorem vEs {h}:∀{ls ids cs bs},kf h ls ids=some (cs,bs)→bs.map (·.1)=ls.map (·.1)
 |[],[],_,_,e=>by cases e;rfl
 |(io,l)::ls,id::ids,cs,bs,e=>by
  unfold kf at e;split at e
  ·rename_i cells rest BD h1 h2;obtain⟨_,e⟩:=wP e;cases e;simp[vEs h2]
  ·cases e
theorem XH {M L}{s:AX}{a b v cs bs out}(h:s.get M.h a=some (cs,bs)){n}(k:s.io n b=some out)(p:zX M a v)(q:s.looks=true→zX L b v)(hk:s.isChn=true→∀i q,bs[i]? =some q→mr M L q.2 (n+i)):zP (mr M L) (vT bs) out:=by
 unfold AX.get at h;split at h
 ·cases h;cases k;exact trivial
 ·obtain⟨_,h'⟩:=wP h;cases h';cases k;exact trivial
 ·unfold AX.io at k;split at k
  ·rename_i e;cases e
  ·rename_i e;cases e
  ·rename_i io' l' jd e;cases e;exact XG (us:=[v]) h k ⟨p,trivial⟩ ⟨q rfl,trivial⟩
  all_goals simp_all
 ·obtain⟨hg,h'⟩:=wP h;unfold AX.io at k;split at k
  ·simp_all
  ·simp_all
  ·simp_all
  ·rename_i f' ahp g' js e;cases e;obtain⟨cv,rfl,hc⟩:=p;obtain⟨cv',e',l9⟩:=q rfl;cases e';exact XG h' k hc l9
  all_goals simp_all
 ·rename_i ls id;split at h
  ·cases k;have h1:=KB h;have h2:ls.length=bs.length:=by rw[h1];simp[EH]
   rw[h2];exact vKk (fun q hq=>by
    have:q.1∈bs.map (·.1):=by grind
    rw[vEs h] at this;exact(by simpa[EH] using this:_∧_).2) (hk rfl)
  ·cases h
 ·cases h
theorem vCm {M L}:∀{l as vs t n cs bs out m},kP M.h l as=some (cs,bs)→Py l t n m=some out→zP (zX M) as vs→(∀i h s,l[i]? =some s→s.looks=true→zX L (t (n+i)) vs[i])→(l.any AX.isChn=true→∀i q,bs[i]? =some q→mr M L q.2 (m+i))→
  zP (mr M L) (vT bs) out
 |[],[],[],t,n,cs,bs,out,m,h,k,_,_,_=>by cases h;cases k;exact trivial
 |s::l,a::as,v::vs,t,n,cs,bs,out,m,h,k,p,q,hk=>by
  unfold kP at h;split at h
  ·rename_i c1 b1 c2 b2 h1 h2;cases h;unfold Py at k;split at k
   ·rename_i o1 o2 k1 k2;cases k;have e:∀b1 b2:List (Bool×Nat),vT (b1++b2)=vT b1++vT b2:=fun b1 b2=>by
     induction b1 with
     |nil=>rfl
     |cons x b1 ih=>obtain⟨io,y⟩:=x;cases io<;>simp[vT,ih]
    rw[e];have hnb:=Xz h1;refine(XH h1 k1 p.1 (q 0 (by simp) s rfl) (by grind)).append (vCm h2 k2 p.2 (fun i hi s' hs hl=>?_) fun hc i q hq=>?_)
    rotate_left
    ·have:=hk (by simp_all) (b1.length+i) q (by grind);grind
    have:=q (i+1) (by simp_all) s' (by simp_all) hl;grind
   ·cases k
  ·cases h
 |[],_::_,_,_,_,_,_,_,_,h,_,_,_,_=>by cases h
theorem yY4 {L}(iU:Ok L):∀{os ids bs},EJ L.h os ids=some bs→bs.length=os.flatten.length∧ids.length=os.length∧
  ∃us:List Value,zP (zZ L) bs us∧∀{M cs},M.H=L.H→zP (zZ M) cs us→pg (fun id cs B=>(∃cells,L.h id=some (.box true cells))∧(∃C,L.κ id=some C∧C.blk=some B∧C.rows=[])∧∃vals e,M.H[B]? =some (.cells vals e (0,0))∧zP (zZ M) cs vals.toList) ids (xB os cs) (ids.map fun id=>((L.κ id).bind qE.blk).getD 0)
 |[],[],bs,h=>by cases h;exact⟨rfl,rfl,[],trivial,fun _ _=>trivial⟩
 |o::os,n::ns,bs,h=>by
  unfold EJ at h;split at h
  ·rename_i cells rest h1 h2;obtain⟨hl,h⟩:=wP h;cases h;obtain⟨C,hC,B,vals,e,q1,q2,q3,q4,_⟩:=iU.obj n _ h1;obtain⟨k1,k2,us,k3,k4⟩:=yY4 iU h2;refine⟨by simp_all,by simp[k2],vals.toList++us,q4.append k3,fun{M cs} hH hc=>⟨⟨by grind,⟨C,hC,?_,q2⟩,vals,e,?_,?_⟩,?_⟩⟩
   ·simp_all
   ·simp_all
   ·have h1:=zP.take o.length hc;have W1:=q4.length;simp_all
   ·have h1:=zP.drop o.length hc;have W1:=q4.length;simp_all
  ·cases h
theorem XI {h0 r c d}(h:pZ h0 r c=some d):∀id∈wL [r] [c],∀own cells,h0 id≠some (.box own cells):=by
  unfold pZ at h;split at h;all_goals (try (intro id an;simp[wL] at an;done))
  all_goals first
    |(done)
    | (intro Eu an own cells hb
       have:=List.mem_singleton.1 an;simp_all)
    |(cases h)
theorem vAp {L}:∀{l cs d},kO L l cs=some d→∀id∈wL l cs,∀own cells,L id≠some (.box own cells)
 |r::l,c::cs,d,h,id,an=>by
  unfold kO at h;split at h
  ·rename_i x xs e1 e2;rw[Ps] at an;rcases List.mem_append.1 an with an|an
   ·exact XI e1 id an
   ·exact vAp e2 id an
  ·cases h
end Go.Ab
