/- part 2 -/
import Derived.Test.YtnojdbmhfbhdjaaGreatGiAbB
import Derived.ProofKit
import Derived.Below
import Derived.Carry
set_option linter.unusedVariables false
set_option linter.unusedSimpArgs false
namespace Go.Ab
def zK.nilObj (M:zK)(nm:Nat)(o:Obj)(sz:Nat):zK:={M with κ:=κset M.κ nm ⟨none,0,sz,0,[]⟩,h:=yL M.h nm o}
def kH (t:Ty)(rows:Bool):Obj:=bif rows then .mat 0 [] else .arr true t []
def l9 (t:Ty)(rows:Bool):Nat:=bif rows then 1 else t.size
theorem zK.nilObj_ok {M}(ok:Ok M){nm}(aU:M.h nm=none) t rows:
  Ok (M.nilObj nm (kH t rows) (l9 t rows))∧yS M (M.nilObj nm (kH t rows) (l9 t rows))∧(∀b,qN (M.nilObj nm (kH t rows) (l9 t rows)) b→qN M b):=by
 have hO:∀M':zK,yY M' (kH t rows) ⟨none,0,l9 t rows,0,[]⟩:=fun M'=>by
  cases rows with
  |false=>exact⟨rfl,rfl,by simp,rfl⟩
  |true=>exact⟨rfl,rfl,rfl,rfl,by simp[qC.fp],rfl⟩
 have x:yS M (M.nilObj nm (kH t rows) (l9 t rows)):=⟨fun id C h=>by
  have bx:id≠nm:=fun e=>by rw[e,ok.non nm aU] at h;cases h
  exact⟨C,by show κset M.κ nm _ id=_;rw[κset_ne _ _ bx];exact h,C.le_refl⟩,fun _ h=>h,fun _ h=>h,fun _ _=>rfl,fun _ _=>rfl,fun _ _=>rfl⟩
 refine⟨Ok.build ok x (fun id=>id=nm) (fun id h=>yV _ _ h) (fun id h=>κset_ne _ _ h) (fun _ _ _ _ _ _ _ _ _=>rfl) (fun id o C h1 h2 h3 h4 b hb=>(ok.own b ⟨id,o,C,h2,h3,h4,hb⟩).1) (Nat.le_refl _)
  (fun id o e h=>?_) (fun id e h=>?_) (fun id o C b e h1 h2 h3 h4=>?_) ok.GF ok.Flt,x,fun b hb=>?_⟩
 ·subst e;have e1:(M.nilObj id (kH t rows) (l9 t rows)).h id=some (kH t rows):=yR _ _ _;rw[e1] at h;cases h;exact⟨_,κset_same _ _ _,hO _⟩
 ·have e1:(M.nilObj id (kH t rows) (l9 t rows)).h id=some (kH t rows):=yR _ _ _;simp_all
 ·subst e;have e1:(M.nilObj id (kH t rows) (l9 t rows)).κ id=some _:=κset_same _ _ _;rw[e1] at h3;cases h3;simp[qC.fp] at h4
 ·obtain⟨id,o,C,h1,h2,h3,h4⟩:=hb;by_cases e:id=nm
  ·subst e;have e1:(M.nilObj id (kH t rows) (l9 t rows)).κ id=some _:=κset_same _ _ _;rw[e1] at h3;cases h3;simp[qC.fp] at h4
  ·exact⟨id,o,C,by rw[←h1];exact(yV _ _ e).symm,h2,by rw[←h3];exact(κset_ne _ _ e).symm,h4⟩
theorem ka.same_mem {M M'}(hF:M'.F=M.F)(hG:M'.G=M.G)(hH:M'.H=M.H)(ho:∀b,qN M' b→qN M b):ka M M':=
 ⟨by grind,by grind,by grind,by grind,by grind,by simp_all,by grind,by grind,
  by grind,by grind⟩
theorem ka.refl M:ka M M:=.same_mem rfl rfl rfl (by simp)
section
variable {na nt:Nat} {a0:Nat→Value} {M0:zK} {w0 w:World} {a:Act}
theorem zN.set_left {α β R l}{m:List β}(h:zN R l m){j}{c:α}(hc:∀(h1:j<l.length) h2,R c m[j]):zN R (l.set j c) m:=by
 refine zN.of_get (by rw[List.length_set];exact h.length) fun i hi bJ=>?_
 rw[List.length_set] at hi;by_cases e:j=i
 ·simp_all
 ·rw[List.getElem_set_ne e];exact h.get i hi bJ
theorem vXo {st}{s j}(r:vW false na nt a0 M0 w0 st a w):vW false na nt a0 M0 w0 (T2 st s j) a w:=by
 obtain⟨M,h1,h2,h3,h4,h5⟩:=r.ex;unfold T2;split
 ·split
  ·rename_i c hs;split
   ·rename_i c' u hf;have hv:=h5 s;rw[hs] at hv;rw[←h1] at hf;obtain⟨L,k1,k2,k3,k4,k5,_⟩:=Jq h3 (jD.refl _) (show zX M c _ from hv) hf;refine⟨⟨L,by rw[k2,h1],k1.trans h2,k3,h4.trans k4.grow,fun t=>?_⟩,r.defers,r.size,r.os,r.tape,r.output,r.keep⟩;show zV _ (jX st.t s _ t) _;unfold jX;cases e:Nat.beq t s with
    |false=>exact(h5 t).ext k4.ext
    |true=>
     have e:t=s:=by simpa using e
     subst e;exact k5
   ·exact r
  ·exact r
 ·rename_i j;split
  ·rename_i id hs;split
   ·rename_i cells an;split
    ·rename_i c yW;split
     ·rename_i c' u hf;rw[←h1] at hf an;obtain⟨C0,se,hO0⟩:=h3.obj id _ an;obtain⟨B0,xi,e0,b10,b20,b30,b40,b50⟩:=hO0;have hj:j<cells.length:=(List.getElem?_eq_some_iff.1 yW).1;have V5:j<xi.toList.length:=by rw[←b40.length];exact hj
      have lu:=b40.get j hj V5;have ec:cells[j]=c:=by grind
      rw[ec] at lu;obtain⟨L,k1,k2,k3,k4,k5,k6,_⟩:=Jq h3 (jD.refl _) lu hf;have Bn:L.h id=some (.box true cells):=by
       rcases k6 id with h|⟨own,t,xs,h,_⟩|⟨ver,xs,h,_⟩
       all_goals simp_all
      obtain⟨C,hC,hO⟩:=k3.obj id _ Bn;obtain⟨B,vals,e,b1,b2,b3,b4,b5⟩:=hO;obtain⟨C1,iR,le⟩:=k4.ext.κ id C0 se;rw[hC] at iR;cases iR;have eB:B=B0:=by rw[le.blk,b10] at b1;simp_all
      subst eB;rw[k1,b30] at b3;cases b3;have hx:=zK.write_ext (H':=L.H) k3 Bn rfl hC C.le_refl (by simp) (by simp) (.box true (cells.set j c'));have hw := zK.write_ok (H' := L.H) (o' := .box true (cells.set j c')) k3 Bn rfl hC C.le_refl (by simp) rfl (by simp) (by simp) (by
       refine⟨B,xi,e0,b1,b2,by show L.H[B]? =_;simp_all,?_,by simp⟩;exact(b4.mono fun _ _ h=>h.ext hx).set_left fun _ _=>k5.ext hx)
      refine⟨⟨L.write id (.box true (cells.set j c')) C L.H,?_,k1.trans h2,hw.1,(h4.trans k4.grow).trans hw.2.grow,fun t=>((h5 t).ext k4.ext).ext hx⟩,r.defers,r.size,r.os,r.tape,r.output,r.keep⟩;show yL L.h id _=yL (qH st.h u) id _;rw[k2,h1]
     ·exact r
    ·exact r
   ·exact r
  ·rename_i cells hs;split
   ·rename_i c yW;split
    ·rename_i c' u hf;have hv:=h5 s;rw[hs] at hv;obtain⟨vs,dL,bn⟩:=hv;rw[←h1] at hf;have hj:j<cells.length:=by grind
     have V5:j<vs.toList.length:=by rw[←bn.length];exact hj
     have lu:=bn.get j hj V5;have ec:cells[j]=c:=by grind
     rw[ec] at lu;obtain⟨L,k1,k2,k3,k4,k5,k6,_⟩:=Jq h3 (jD.refl _) lu hf;refine⟨⟨L,by rw[k2,h1],k1.trans h2,k3,h4.trans k4.grow,fun t=>?_⟩,r.defers,r.size,r.os,r.tape,r.output,r.keep⟩;show zV _ (jX st.t s _ t) _;unfold jX;cases e:Nat.beq t s with
     |false=>exact(h5 t).ext k4.ext
     |true=>
      have e:t=s:=by simpa using e
      subst e;exact⟨vs,dL,(bn.mono fun _ _ h=>h.ext k4.ext).set_left (by grind)⟩
    ·exact r
   ·exact r
  ·exact r
theorem vNb {st nm g}(r:vW false na nt a0 M0 w0 st a w)(aU:st.h nm=none):vW false na nt a0 M0 w0 (T3 st nm g) a w:=by
 obtain⟨M,h1,h2,h3,h4,h5⟩:=r.ex;have hM:M.h nm=none:=by simp_all
 obtain⟨k1,k2,k3⟩:=M.nilObj_ok h3 hM g.2.2.1 g.2.2.2;have cO:zX (M.nilObj nm (kH g.2.2.1 g.2.2.2) (l9 g.2.2.1 g.2.2.2)) (.osl nm none) (.slice none 0 0):=⟨_,κset_same _ _ _,none,0,rfl,rfl,rfl,rfl⟩;have gr:ub false M0 (M.nilObj nm (kH g.2.2.1 g.2.2.2) (l9 g.2.2.1 g.2.2.2)):=h4.trans (.same_mem rfl rfl rfl k3);unfold T3;cases agK:g.2.2.2&&vJn g.2.2.1 with
 |true=>exact vXo r
 |false=>
 split
 ·split
  ·rename_i hs;refine⟨⟨M.nilObj nm (kH g.2.2.1 g.2.2.2) (l9 g.2.2.1 g.2.2.2),?_,h2,k1,gr,fun t=>?_⟩,r.defers,r.size,r.os,r.tape,r.output,r.keep⟩
   ·show yL M.h nm _=yL st.h nm _;rw[h1];rfl
   ·show zV _ (jX st.t g.1 _ t) _;unfold jX;cases e:Nat.beq t g.1 with
    |false=>exact(h5 t).ext k2
    |true=>
     have e:t=g.1:=by simpa using e
     subst e;have hv:=h5 g.1;rw[hs] at hv;rw[hv];exact cO
  ·exact r
 ·rename_i j hj;split
  ·rename_i id hs;split
   ·rename_i cells an;split
    ·have bx:id≠nm:=by grind
     let M1:=M.nilObj nm (kH g.2.2.1 g.2.2.2) (l9 g.2.2.1 g.2.2.2);have pP:M1.h id=some (.box true cells):=by
      show yL M.h nm _ id=_;rw[yV _ _ bx,h1];exact an
     obtain⟨C,hC,hO⟩:=k1.obj id _ pP;obtain⟨B,vals,e,b1,b2,b3,b4,b5⟩:=hO;have hx:=zK.write_ext (H':=M1.H) k1 pP rfl hC C.le_refl (by grind) (by grind) (.box true (cells.set j (.osl nm none)));have hw := zK.write_ok (H' := M1.H) (o' := .box true (cells.set j (.osl nm none))) k1 pP rfl hC C.le_refl (by simp) rfl (by grind) (by grind) (by
      refine⟨B,vals,e,b1,b2,b3,?_,by simp⟩;have hl:=b4.length;refine zN.of_get (by simp_all) fun i hi bJ=>?_
      have hb:=b4.get i (by omega) bJ;by_cases eij:j=i
      ·subst eij;rw[List.getElem_set_self];have ec:cells[j]=.nsl:=by
        grind
       rw[ec] at hb;rw[hb];exact cO.ext hx
      ·rw[List.getElem_set_ne eij];exact hb.ext hx)
     refine⟨⟨M1.write id (.box true (cells.set j (.osl nm none))) C M1.H,?_,h2,hw.1,gr.trans hw.2.grow,fun t=>((h5 t).ext k2).ext hx⟩,r.defers,r.size,r.os,r.tape,r.output,r.keep⟩;show yL (yL M.h nm _) id _=yL (yL st.h nm _) id _;rw[h1];rfl
    ·exact r
   ·exact r
  ·exact r
theorem yQn:∀{l st bK nm},vW false na nt a0 M0 w0 st a w→Oe st nm l=some bK→vW false na nt a0 M0 w0 bK a w
 |[],st,bK,nm,r,h=>by cases h;exact r
 |g::l,st,bK,nm,r,h=>by
  unfold Oe at h;split at h
  ·rename_i aU;exact yQn (vNb r aU) h
  ·cases h
theorem yLr {id}:∀{l n i},fz id l n=some i→n≤i∧l[i-n]? =some id
 |x::l,n,i,h=>by
  unfold fz at h;cases e:Nat.beq x id with
  |true=>
   simp_all
  |false=>
   rw[e] at h;obtain⟨h1,h2⟩:=yLr (l:=l) h;grind
theorem V6 {h}:∀n {todo seen},seen.Nodup→(DO h n todo seen).Nodup
 |0,_,_,hs
 |n+1,[],_,hs=>hs
 |n+1,id::todo,seen,hs=>by
  unfold DO;cases e:seen.any (Nat.beq id) with
  |true=>exact V6 n hs
  |false=>
   refine V6 n (List.nodup_append.2 ⟨hs,by simp,fun x hx y hy exy=>?_⟩);have:y=id:=by simp_all
   have:=List.any_eq_false.1 e x hx;simp_all
def pV (base : Nat) (κ : Nat → Option qC) (ids : List Nat) : Nat → Option qC := fun n => if base ≤ n then (match ids[n-base]? with
 |some id=>(κ id).map fun C=>{C with ver:=0}
 |none=>none) else none
def zK.ren (M:zK)(base:Nat)(ids:List Nat):zK:={M with κ:=pV base M.κ ids,h:=AT base M.h ids}
theorem V7 {base h ids n o}(e:AT base h ids n=some o):∃id o',base≤n∧ids[n-base]? =some id∧h id=some o'∧o=wu h (fun i=>(fz i ids 0).map (base+·)) o':=by
 unfold AT at e;cases hb:Nat.ble base n with
 |false=>simp_all
 |true=>
  rw[hb] at e;split at e
  ·obtain⟨o',h1,h2⟩:=Option.map_eq_some_iff.1 e;simp_all
  ·cases e
theorem vZf {base κ ids id i C}(hi:fz id ids 0=some i)(hC:κ id=some C):pV base κ ids (base+i)=some {C with ver:=0}:=by
 obtain⟨_,h⟩:=yLr hi;unfold pV;simp_all
theorem V8 {M}(ok:Ok M){base ids c v}(h:zX M c v):zX (M.ren base ids) (wq M.h (fun i=>(fz i ids 0).map (base+·)) c) v:=by
 have h1:=h.one;have look:∀id C,M.κ id=some C→∀i,(fz id ids 0).map (base+·)=some i→(M.ren base ids).κ i=some {C with ver:=0}:=fun id C hC i hi=>by
  obtain⟨j,hj,rfl⟩:=Option.map_eq_some_iff.1 hi;exact vZf hj hC
 unfold wq;cases c with
 |osl id r=>
  dsimp only;obtain⟨C,hC,h⟩:=h;cases e:(fz id ids 0).map (base+·) with
  |none=>exact h1
  |some i=>cases r with
   |none=>exact⟨_,look id C hC i e,h⟩
   |some p=>exact⟨_,look id C hC i e,h⟩
 |bsl id x y=>
  dsimp only;obtain⟨C,B,hC,h⟩:=h;cases e:(fz id ids 0).map (base+·) with
  |none=>exact h1
  |some i=>exact⟨_,B,look id C hC i e,h⟩
 |ptr id x=>
  dsimp only;obtain⟨C,B,hC,h⟩:=h;cases e:(fz id ids 0).map (base+·) with
  |none=>exact h1
  |some i=>exact⟨_,B,look id C hC i e,h⟩
 |eptr id x y=>
  dsimp only;obtain⟨C,B,hC,h⟩:=h;cases e:(fz id ids 0).map (base+·) with
  |none=>exact h1
  |some i=>exact⟨_,B,look id C hC i e,h⟩
 |mrow id x ver=>
  dsimp only;obtain⟨C,hC,ho,hle,h⟩:=h;cases e:(fz id ids 0).map (base+·) with
  |none=>exact h1
  |some i=>
   split
   ·rename_i i' v' xs ei an;cases ei;cases fS:Nat.beq v' ver with
    |false=>exact h1
    |true=>
     have iO:v'=ver:=by simpa using fS
     obtain⟨C',aF,hO⟩:=ok.obj id _ an;rw[hC] at aF;cases aF;exact⟨_,look id C hC i e,h1,Nat.le_refl _,fun _=>h (by rw[hO.1,iO])⟩
   ·exact h1
 |mptr id x=>
  dsimp only;obtain⟨C,B,hC,h⟩:=h;cases e:(fz id ids 0).map (base+·) with
  |none=>exact h1
  |some i=>exact⟨_,B,look id C hC i e,h⟩
 |meptr id x y ver=>
  dsimp only;obtain⟨C,hC,ho,hle,h⟩:=h;cases e:(fz id ids 0).map (base+·) with
  |none=>exact h1
  |some i=>
   split
   ·rename_i i' v' xs ei an;cases ei;cases fS:Nat.beq v' ver with
    |false=>exact h1
    |true=>
     have iO:v'=ver:=by simp_all
     obtain⟨C',aF,hO⟩:=ok.obj id _ an;rw[hC] at aF;cases aF;exact⟨_,look id C hC i e,h1,by simp,fun _=>h (by rw[hO.1,iO])⟩
   ·exact h1
 |map id=>
  dsimp only;obtain⟨C,B,hC,h⟩:=h;cases e:(fz id ids 0).map (base+·) with
  |none=>exact h1
  |some i=>exact⟨_,B,look id C hC i e,h⟩
 |fn f cap=>
  dsimp only;obtain⟨cv,rfl,h⟩:=h;split
  ·rename_i c hc;refine⟨cv,rfl,?_⟩;have:=JP _ _ _ hc;generalize cv.toList=l at h;clear hc h1
   induction cap generalizing c l with
   |nil=>cases c with
    |nil=>cases l with
     |nil=>trivial
     |cons _ _=>exact h.elim
    |cons _ _=>exact this.elim
   |cons x cap ih=>cases c with
    |nil=>exact this.elim
    |cons y c=>cases l with
     |nil=>exact h.elim
     |cons u l=>
      obtain⟨⟨C,B,hC,hh⟩,h⟩:=h;exact⟨⟨_,B,look x C hC y this.1,hh⟩,ih c this.2 l h⟩
  rfl
 |fsl sh t xs=>exact h
 |fptr sh t x off=>exact h
 |_=>exact h
theorem JZ {M}(ok:Ok M){base ids}:∀{cs vs},zN (zX M) cs vs→zN (zX (M.ren base ids)) (cs.map (wq M.h fun i=>(fz i ids 0).map (base+·))) vs
 |[],[],_=>trivial
 |_::_,_::_,h=>⟨V8 ok h.1,JZ ok h.2⟩
theorem vTp {M}(ok:Ok M){base ids x v}(h:zV M x v):zV (M.ren base ids) (yVh M.h (fun i=>(fz i ids 0).map (base+·)) x) v:=by
 cases x with
 |undef=>trivial
 |skp=>exact h
 |c x=>exact V8 (c:=x) ok h
 |agg cs=>
  obtain⟨vs,h1,h2⟩:=h;exact⟨vs,h1,JZ ok h2⟩
 |tup xs=>
  obtain⟨vs,h1,h2⟩:=h;refine⟨vs,h1,zN.map_left (h2.mono fun p u hp=>?_)⟩;obtain⟨b,cs⟩:=p;cases b with
  |true=>
   obtain⟨us,q1,q2⟩:=hp;exact⟨us,q1,JZ ok q2⟩
  |false=>
   cases cs with
   |nil=>exact hp
   |cons c cs=>cases cs with
    |nil=>exact V8 (c:=c) ok hp
    |cons _ _=>exact hp
theorem vC4 {M}(ok:Ok M){base ids o C}(h:yY M o C):yY (M.ren base ids) (wu M.h (fun i=>(fz i ids 0).map (base+·)) o) {C with ver:=0}:=by
 cases o with
 |box own cells=>
  obtain⟨B,vals,e,h1,h2,h3,h4,h5⟩:=h;exact⟨B,vals,e,h1,h2,h3,JZ ok h4,h5⟩
 |robox cells=>
  obtain⟨B,vals,e,h1,h2,h3,h4,h5⟩:=h;exact⟨B,vals,e,h1,h2,h3,JZ ok h4,h5⟩
 |arr own t xs=>exact h
 |mat ver xs=>
  obtain⟨h1,h2⟩:=h;exact⟨rfl,h2⟩
 |pmat ver xs n=>
  obtain⟨h1,h2⟩:=h;exact⟨rfl,h2⟩
 |imap df=>exact h
 |gone=>trivial
theorem Wa {h ρ} o:(wu h ρ o).owned=o.owned:=by cases o<;>rfl
theorem zK.ren_ok {M}(ok:Ok M){base ids}(dM:ids.Nodup):Ok (M.ren base ids)∧∀b,qN (M.ren base ids) b→qN M b:=by
 have at':∀n o,(M.ren base ids).h n=some o→∃id o' C,base≤n∧ids[n-base]? =some id∧M.h id=some o'∧M.κ id=some C∧o=wu M.h (fun i=>(fz i ids 0).map (base+·)) o'∧yY M o' C∧(M.ren base ids).κ n=some {C with ver:=0}:=fun n o h=>by
  obtain⟨id,o',h1,h2,h3,h4⟩:=V7 h;obtain⟨C,hC,hO⟩:=ok.obj id _ h3;refine⟨id,o',C,h1,h2,h3,hC,h4,hO,?_⟩;show pV base M.κ ids n=_;unfold pV;simp_all
 have nF:∀b,qN (M.ren base ids) b→qN M b:=fun b ⟨n,o,C,h1,h2,h3,h4⟩=>by
  obtain⟨id,o',C',k1,k2,k3,k4,k5,k6,k7⟩:=at' n o h1;rw[k7] at h3;cases h3;exact⟨id,o',C',k3,by rw[←h2,k5,Wa],k4,h4⟩
 refine⟨⟨fun n o h=>?_,fun n h=>?_,fun i j oi oj Ci Cj b mM h1 h2 h3 h4 h5 h6 h7 h8=>?_,fun b h=>ok.own b (nF b h),ok.GF,ok.Flt⟩,nF⟩
 ·obtain⟨id,o',C,k1,k2,k3,k4,rfl,k6,k7⟩:=at' n o h;exact⟨_,k7,vC4 ok k6⟩
 ·show pV base M.κ ids n=none;unfold pV;split
  ·rename_i hb;split
   ·rename_i id an;have:M.h id=none:=by
     cases e:M.h id with
     |none=>rfl
     |some o=>
      have:(M.ren base ids).h n=some (wu M.h (fun i=>(fz i ids 0).map (base+·)) o):=by
       show AT base M.h ids n=_;unfold AT;rw[show Nat.ble base n=true from Nat.ble_eq_true_of_le hb,an];simp[e]
      simp_all
    rw[ok.non id this];rfl
   ·rfl
  ·rfl
 ·obtain⟨id,o',C,k1,k2,k3,k4,k5,k6,k7⟩:=at' i oi h1;obtain⟨jd,p',D,q1,q2,q3,q4,q5,q6,q7⟩:=at' j oj h2;rw[k7] at h5;rw[q7] at h6;cases h5;cases h6;refine ok.disj id jd o' p' C D b (fun e=>?_) k3 q3 (by rw[←h3,k5,Wa]) (by rw[←h4,q5,Wa]) k4 q4 h7 h8;have hi:=(List.getElem?_eq_some_iff.1 k2);have hj:=(List.getElem?_eq_some_iff.1 q2);have:=(List.getElem_inj (h₀:=hi.1) (h₁:=hj.1) dM).1 (by omega);omega
theorem yUa:∀{a b},N6 a b=true→a=b
 |[],[],_=>rfl
 |x::a,y::b,h=>by
  simp only[N6,Bool.and_eq_true] at h;rw[Nat.eq_of_beq_eq_true h.1,yUa h.2]
theorem Wb {c v}(h:TW c v=true):c=.undef∨c=v:=by
 unfold TW at h;split at h
 ·simp
 ·simp
 ·simp
 ·simp
 ·simp
 ·simp_all
 ·simp_all
 ·simp_all
 ·simp only[Bool.and_eq_true] at h;exact .inr (by rw[Nat.eq_of_beq_eq_true h.1,yUa h.2])
 all_goals simp_all
theorem nN {α:Type}{c x}{y:α}(h:(bif c then x else none)=some y):c=true∧x=some y:=by
 grind
theorem uf {M}(ok:Ok M):∀{l cs d vs},mI l cs=some d→zN (zX M) cs vs→zN (zX M) (pK l d) vs
 |[],[],_,[],_,_=>trivial
 |.int k::l,c::cs,d,v::vs,h,hv=>by
  cases c<;>first|(cases h;done)|skip
  obtain⟨hk,h⟩:=nN h;split at h
  ·rename_i d' hd;cases h;refine⟨?_,uf ok hd hv.2⟩;rw[←tD hk];exact hv.1
  ·cases h
 |.bool::l,c::cs,d,v::vs,h,hv=>by
  cases c<;>first|(cases h)|skip
  unfold mI at h;split at h
  ·rename_i d' hd;cases h;exact⟨hv.1,uf ok hd hv.2⟩
  ·cases h
 |.dat sh t::l,c::cs,d,v::vs,h,hv=>by
  cases c<;>first|(cases h;done)|skip
  ·rename_i Jj s xs;obtain⟨hs,h⟩:=nN h;split at h
   ·rename_i ys d' hx hd;cases h;obtain⟨e,hx⟩:=lq hx;subst e;subst hx;refine⟨?_,uf ok hd hv.2⟩;have h1:qF M.H (bif Jj then M.G else M.F) (.sl s) xs (fun _=>some v):=hv.1;cases sh with
    |true=>
     have:Jj=true:=by simp_all
     subst this;exact h1
    |false=>cases Jj with
     |false=>exact h1
     |true=>exact vB ok.GF (by simp) _ _ _ _ (by simp) h1
   ·cases h
  ·unfold mI at h;split at h
   ·rename_i d' hd;cases h;refine⟨?_,uf ok hd hv.2⟩;rw[show v=.slice none 0 0 from hv.1];exact⟨none,0,0,rfl,rfl,by simp,by simp⟩
   ·cases h
 |.lit c::l,x::cs,d,v::vs,h,hv=>by
  obtain⟨he,h⟩:=nN h;refine⟨?_,uf ok h hv.2⟩;rcases Wb he with rfl|rfl
  ·exact hv.1.one
  ·exact hv.1
theorem Wc {M}(ok:Ok M){v a d rv}(h:TX v a=some d)(hv:zV M a rv):zV M (TY v d) rv:=by
 cases v with
 |c x=>
  cases a with
  |c y=>
   have:=uf ok (vs:=[rv]) (show mI [x] [y]=some d from h) ⟨hv,trivial⟩;show zV M (match pK [x] d with|c::_=>.c c|[]=>.undef) rv
   match hh:pK [x] d,this with
   |[c],this=>exact this.1
  |_=>cases h
 |agg l=>
  cases a with
  |agg vs=>
   obtain⟨us,rfl,hx⟩:=hv;exact⟨us,rfl,uf ok (show mI l vs=some d from h) hx⟩
  |_=>cases h
theorem vPh {M}(ok:Ok M){o x d C}(h:N7 o x=some d)(hO:yY M x C)(hv:C.ver=0):yY M (N8 o d) C∧(N8 o d).owned=x.owned:=by
 unfold N7 at h;split at h
 ·obtain⟨he,h'⟩:=nN h;have he:=eq_of_beq he;subst he;clear h;obtain⟨B,vals,e,h1,h2,h3,h4,h5⟩:=hO;exact⟨⟨B,vals,e,h1,h2,h3,uf ok h' h4,h5⟩,rfl⟩
 ·obtain⟨B,vals,e,h1,h2,h3,h4,h5⟩:=hO;exact⟨⟨B,vals,e,h1,h2,h3,uf ok h h4,h5⟩,rfl⟩
 ·obtain⟨he,h'⟩:=nN h;have he:=eq_of_beq he;subst he;obtain⟨e,hx⟩:=lq h';subst e;subst hx;exact⟨hO,rfl⟩
 ·cases h;exact⟨⟨hv,hO.2⟩,rfl⟩
 ·cases h;exact⟨⟨hv,hO.2⟩,rfl⟩
 ·cases h;exact⟨hO,rfl⟩
 ·cases h
theorem yNq {f t}:∀{l d n v},Of f t l=some d→(DL l d).lookup n=some v→∃(s:VS) (x:SL s.cells),TX s (f (t n))=some x∧v=TY s x
 |s::l,d,n,v,hr,h=>by
  unfold Of at hr;split at hr
  ·rename_i x ds h1 h2;cases hr;unfold DL at h;rw[List.lookup_cons] at h;cases e:n==s.1 with
   |true=>
    grind
   |false=>
    rw[e] at h;exact yNq h2 h
  ·cases hr
theorem vD6 {f h0}:∀{l ids d},Og f h0 l ids=some d→(tJ l d).length=ids.length∧∀(i:Nat) o,(tJ l d)[i]? =some o→∃(s:OS) (x:s.den) (id:Nat) (y:Obj),ids[i]? =some id∧h0 id=some y∧N7 s (f y)=some x∧o=N8 s x
 |[],[],d,_=>⟨rfl,nofun⟩
 |s::l,id::ids,d,h=>by
  unfold Og at h;split at h
  ·rename_i x ds h1 h2;cases h;obtain⟨y,h3,h4⟩:=Option.bind_eq_some_iff.1 h1;obtain⟨k1,k2⟩:=vD6 h2;refine⟨by simp[tJ,k1],fun i o hi=>?_⟩;cases i with
   |zero=>
    simp[tJ] at hi;grind
   |succ i=>
    simp[tJ] at hi;simp_all
  ·cases h
theorem vK8 {g0 base n:Nat}{S:zE}{st:St}{d:S.den}(r:vW false na nt a0 M0 w0 st a w)(h:T4 g0 base n S st=some d):vW false na nt a0 M0 w0 (zL base S d) a w:=by
 unfold T4 at h;split at h
 ·cases h
 rename_i J0 hg;have r:=yQn r hg;dsimp only at h;generalize kE:DO J0.h n _ []=ids at h;have dM:ids.Nodup:=by rw[←kE];exact V6 n List.nodup_nil
 split at h
 case h_2=>cases h
 rename_i da db ha hb;cases h;obtain⟨M,h1,h2,h3,h4,h5⟩:=r.ex;rw[←h1] at ha hb;obtain⟨k1,k2⟩:=M.ren_ok h3 (base:=base) dM;obtain⟨ol,oa⟩:=vD6 hb;let M':zK:={M.ren base ids with h:=(zL base S (da,db)).h};have O0:∀n o',M'.h n=some o'→∃o C,(M.ren base ids).h n=some o∧M'.κ n=some C∧yY (M.ren base ids) o' C∧o'.owned=o.owned:=fun m o' e=>by
  have e:(bif Nat.ble base m then(tJ S.objs db)[m-base]? else none)=some o':=e;obtain⟨hle,e⟩:=nN e;obtain⟨s,x,id,y,q1,q2,q3,rfl⟩:=oa _ _ e;obtain⟨C,hC,hO⟩:=h3.obj id y q2;have hκ:(M.ren base ids).κ m=some {C with ver:=0}:=by
   show pV base M.κ ids m=_;unfold pV;simp_all
  have hh:(M.ren base ids).h m=some (wu M.h (fun i=>(fz i ids 0).map (base+·)) y):=by
   show AT base M.h ids m=_;unfold AT;grind
  obtain⟨p1,p2⟩:=vPh k1 q3 (vC4 h3 hO) rfl;grind
 have x:yS (M.ren base ids) M':=⟨fun _ C h=>⟨C,h,C.le_refl⟩,fun _ h=>h,fun _ h=>h,fun _ _=>rfl,by grind,fun _ _=>rfl⟩;have aN:∀b,qN M' b→qN (M.ren base ids) b:=fun b ⟨id,o',C,q1,q2,q3,q4⟩=>by
  obtain⟨o,D,p1,p2,p3,p4⟩:=O0 id o' q1;exact⟨id,o,C,p1,by rw[←p4];exact q2,q3,q4⟩
 have gW:Ok M':=by
  refine⟨fun id o' q=>?_,fun id q=>?_,fun i j oi oj Ci Cj b mM q1 q2 q3 q4 q5 q6 q7 q8=>?_,fun b hb=>k1.own b (aN b hb),k1.GF,k1.Flt⟩
  ·obtain⟨o,C,p1,p2,p3,p4⟩:=O0 id o' q;exact⟨C,p2,p3.ext x (by grind)⟩
  ·have q:(bif Nat.ble base id then(tJ S.objs db)[id-base]? else none)=none:=q;show pV base M.κ ids id=none;unfold pV;cases hle:Nat.ble base id with
   |false=>rw[if_neg fun h=>by rw[Nat.ble_eq_true_of_le h] at hle;cases hle]
   |true=>
    simp_all
  ·obtain⟨o1,C1,p1,p2,p3,p4⟩:=O0 i oi q1;obtain⟨o2,C2,p5,p6,p7,p8⟩:=O0 j oj q2;exact k1.disj i j o1 o2 Ci Cj b mM p1 p5 (by rw[←p4];exact q3) (by rw[←p8];exact q4) q5 q6 q7 q8
 refine⟨⟨M',rfl,h2,gW,h4.trans (.same_mem rfl rfl rfl (by grind)),fun m=>?_⟩,r.defers,r.size,r.os,r.tape,r.output,r.keep⟩;show zV M' (match(DL S.slots da).lookup m with|some v=>v|none=>.undef) _;cases hl:(DL S.slots da).lookup m with
 |none=>trivial
 |some v=>
  obtain⟨s,y,q1,rfl⟩:=yNq ha hl;exact(Wc k1 q1 (vTp h3 (h5 m))).ext x
theorem O1 {pre S st d}(r:vW false na nt a0 M0 w0 st a w)(h:Jl pre S st=some d):vW false na nt a0 M0 w0 (zL (pre+iA) S d) a w:=vK8 r h
end
end Go.Ab
set_option linter.unusedSectionVars false
namespace Go.Ab
def Ex.toExit:Ex→Exit
 |.normal=>.normal
 |.ret=>.ret
 |.exit id=>.exit id
theorem vB1 {P Q c}(I:Nat→Act→World→Prop)(round:∀n a w,I n a w→c.wp P (Exit.then (fun a' w'=>∃m,m<n∧I m a' w') Q) a w){n a w}(h₀:I n a w):(Code.loop c).wp P Q a w:=by
 intro b k cs;have key:∀n a w,I n a w→∃e a' w',Q e a' w'∧Arrives P (lone (b.at a (.code c::.inLoop c::k)) cs w) b k cs e a' w':=by
  intro n
  induction n using Nat.strongRecOn with
  |_ n ih=>
   intro a w hI;obtain⟨e,a₁,w₁,hq,kI⟩:=round n a w hI b (.inLoop c::k) cs;cases e with
   |normal=>
    obtain⟨m,hm,hI₁⟩:=hq;obtain⟨e₂,a₂,w₂,hq₂,harr₂⟩:=ih m hm a₁ w₁ hI₁;exact⟨e₂,a₂,w₂,hq₂,.of_steps (Steps.trans kI (.one step_inLoop)) harr₂⟩
   |exit id=>exact⟨_,a₁,w₁,hq,.pass (x:=.inLoop c) rfl (by simp) kI⟩
   |goto l=>exact⟨_,a₁,w₁,hq,.pass (x:=.inLoop c) rfl (by simp) kI⟩
   |ret=>exact⟨_,a₁,w₁,hq,.pass (x:=.inLoop c) rfl (fun _ _=>.inl (by simp)) kI⟩
   |panic ch=>exact⟨_,a₁,w₁,hq,.pass (x:=.inLoop c) rfl (fun _ _=>.inl (by simp)) kI⟩
   |outgrown=>exact⟨_,a₁,w₁,hq,.pass (x:=.inLoop c) rfl (by simp) kI⟩
 obtain⟨e,a',w',hq,kI⟩:=key n a w h₀;exact⟨e,a',w',hq,.of_steps (.one step_loop) kI⟩
def O2 (tmps:Array Value):ResultVar→Sem Value
 |.tmp t=>pure (tmps.getD t undef)
 |.cell c t=>do loadVar t (←asAddr (tmps.getD c undef))
def Bo (base:Nat):(l:List (Ex×zE))→wk l→Ex×St
 |[],d=>(.normal,⟨fun _=>.undef,fun _=>none⟩)
 |[p],d=>(p.1,zL base p.2 d)
 |p::q::l,d=>match d with
  |.inl d=>(p.1,zL base p.2 d)
  |.inr d=>Bo base (q::l) d
theorem yNl {R base K}{out:R}:∀{l d},DQ base l d K=some out→K (Bo base l d).1 (Bo base l d).2=some out
 |[p],_,h
 |p::q::l,.inl d,h=>h
 |p::q::l,.inr d,h=>yNl (l:=q::l) h
def J1 (base:Nat):(l:List zE)→rP l→St
 |[],_=>⟨fun _=>.undef,fun _=>none⟩
 |[S],d=>zL base S d
 |S::T::l,d=>match d with
  |.inl d=>zL base S d
  |.inr d=>J1 base (T::l) d
theorem vBu {R base K}{out:R}:∀{l d},Oh base l d K=some out→K (J1 base l d)=some out
 |[S],_,h
 |S::T::l,.inl d,h=>h
 |S::T::l,.inr d,h=>vBu (l:=T::l) h
def zS (P:Program)(pre na nt:Nat)(b:Code)(L:zT):Prop:=∀k d x,L.sum k d=some x→∀(a0:Nat→Value) (M0:zK) (w0:World) (a:Act) (w:World) (Q:Exit→Act→World→Prop),
 vW false na nt a0 M0 w0 (J1 (pre+iA) L.ins d) a w→
 (∀(o:wk L.outs) a' w',(∀R K,L.elim (pre+iA) x R K=DQ (pre+iA) L.outs o K)→vW false na nt a0 M0 w0 (Bo (pre+iA) L.outs o).2 a' w'→Q (Bo (pre+iA) L.outs o).1.toExit a' w')→
 (Code.loop b).wp P Q a w
def wK (P:Program)(A:zU)(pre na nt:Nat):Code→Prop
 |.seq a b=>wK P A pre na nt a∧wK P A pre na nt b
 |.cond _ a b=>wK P A pre na nt a∧wK P A pre na nt b
 |.block _ b=>wK P A pre na nt b
 |.loop b=>(∀L,wv A b=some L→zS P pre na nt b L)∧(wv A b=none→wK P A pre na nt b)
 |_=>True
theorem yJ2 {A c b st}(h:st.ev c=.c (.bool b)):Oi A c b st=st:=by
 unfold Oi;split
 ·rw[VN h]
 ·rfl
section
variable {nl:Bool} {E:Env} {A:zU} {k pre na nt:Nat} {a0:Nat→Value} {R:Type} {M0:zK} {w0:World} {out:R}
theorem Wd {a w st}(r:vW false na nt a0 M0 w0 st a w):∀{l x},DP pre l st=some x→vW false na nt a0 M0 w0 (J1 (pre+iA) l x) a w
 |[S],x,h=>O1 r h
 |S::T::l,x,h=>by
  unfold DP at h;split at h
  ·rename_i d hd;cases h;exact O1 r hd
  ·split at h
   ·rename_i d hd;cases h;exact Wd r (l:=T::l) hd
   ·cases h
theorem ySq (hE:gA E)(hS:j9 E.sums)(hm:E.P.follows .mixedOrders=true)(OM:nl=true→A.loops=[]):∀c,wK E.P A pre na nt c→∀st K a w Q,kz E A k pre na nt c st K=some out→vW nl na nt a0 M0 w0 st a w→
  (∀e bK a' w',vW nl na nt a0 M0 w0 bK a' w'→K e bK=some out→Q e.toExit a' w')→c.wp E.P Q a w:=by
 intro c
 induction c with
 |skip=>exact fun _ st K a w Q h r hK=>wp_skip (hK .normal st a w r h)
 |region id ops draw=>
  intro _ st K a w Q h r hK;cases draw with
  |true=>
   cases he:Jk ops with
   |false=>simp only[kz,he] at h;cases h
   |true=>
    simp only[kz,he] at h;exact vW9 hE hS hm he h r fun bK a' w' r' h'=>hK .normal bK a' w' r' h'
  |false=>
   have:=yIe hE (Q:=Q) _ _ _ _ a w (by grind) h r fun bK a' w' r' h'=>hK .normal bK a' w' r' h'
   refine wp_region ?_;have e:(ops.toList.zipIdx.map fun p=>(p.2,p.1)).map (·.1)=List.range ops.size:=by
    rw[List.map_map];have e2:((fun x:Nat×Oper=>x.1)∘fun p:Oper×Nat=>(p.2,p.1))=Prod.snd:=rfl;rw[e2,List.zipIdx_map_snd,←List.range_eq_range'];simp
   simp_all
 |seq x y We Wg=>
  intro hL st K a w Q h r hK;simp only[kz] at h;refine wp_seq (We hL.1 st _ a w _ h r fun e bK a' w' r' h'=>?_);cases e with
  |normal=>exact Wg hL.2 bK K a' w' Q h' r' hK
  |ret=>exact hK .ret bK a' w' r' h'
  |exit id=>exact hK (.exit id) bK a' w' r' h'
 |cond c x y We Wg=>
  intro hL st K a w Q h r hK;simp only[kz] at h;split at h
  ·rename_i t ht;obtain⟨M,_,_,_,_,hv⟩:=r.ex;have hc:=yKk hv c;rw[ht] at hc;refine wp_cond (t:=t) hc ?_;cases t with
   |true=>
    rw[yJ2 ht,cond_true] at h;exact We hL.1 st K a w Q h r hK
   |false=>
    rw[yJ2 ht,cond_false] at h;exact Wg hL.2 st K a w Q h r hK
  ·cases h
 |block id b ih=>
  intro hL st K a w Q h r hK;simp only[kz] at h;refine wp_block (ih hL st _ a w _ h r fun e bK a' w' r' h'=>?_);cases e with
  |normal=>exact hK .normal bK a' w' r' h'
  |ret=>exact hK .ret bK a' w' r' h'
  |exit i=>
   show if i=id then Q .normal a' w' else Q (.exit i) a' w'
   dsimp only at h';cases e:Nat.beq i id with
   |true=>
    rw[e] at h';rw[if_pos (by simpa using e)];exact hK .normal bK a' w' r' h'
   |false=>
    rw[e] at h';rw[if_neg (fun e'=>by simp_all)];exact hK (.exit i) bK a' w' r' h'
 |loop b ih=>
  intro hL st K a w Q h r hK;simp only[kz] at h;split at h
  ·rename_i hN;refine vB1 (fun n a w=>∃st,vW nl na nt a0 M0 w0 st a w∧T6 (kz E A k pre na nt b) n st K=some out) (fun n a w ⟨st,r,hi⟩=>?_) ⟨st,r,h⟩;cases n with
   |zero=>cases hi
   |succ n=>
    refine ih (hL.2 hN) st _ a w _ hi r fun e bK a' w' r' h'=>?_
    cases e with
    |normal=>exact⟨n,by simp,bK,r',h'⟩
    |ret=>exact hK .ret bK a' w' r' h'
    |exit id=>exact hK (.exit id) bK a' w' r' h'
  ·rename_i L hN;split at h
   ·cases h
   ·rename_i d hd;obtain⟨x,hx,h⟩:=Option.bind_eq_some_iff.1 h;cases nl with
    |true=>
     unfold wv at hN;grind
    |false=>exact hL.1 L hN k d x hx a0 M0 w0 a w Q (Wd r hd) fun o a' w' ho r'=>hK _ _ a' w' r' (yNl (by simp_all))
 |exit id=>exact fun _ st K a w Q h r hK=>wp_exit (hK (.exit id) st a w r h)
 |ret=>exact fun _ st K a w Q h r hK=>wp_ret (hK .ret st a w r h)
 |_=>nofun
theorem yLp {a b}(h:TZ a b=true):a=b:=by
 cases a<;>cases b<;>first|rfl|(cases h)|skip
 rw[Nat.eq_of_beq_eq_true h]
theorem yPm {a w st e}(r:vW false na nt a0 M0 w0 st a w):∀{l x},Jm pre l e st=some x→(Bo (pre+iA) l x).1=e∧vW false na nt a0 M0 w0 (Bo (pre+iA) l x).2 a w
 |[p],x,h=>by
  obtain⟨he,h⟩:=nN h;exact⟨yLp he,O1 r h⟩
 |p::q::l,x,h=>by
  unfold Jm at h;split at h
  ·rename_i d hd;cases h;obtain⟨he,hd⟩:=nN hd;exact⟨yLp he,O1 r hd⟩
  ·split at h
   ·rename_i d hd;cases h;exact yPm r (l:=q::l) hd
   ·cases h
theorem vRy (hE:gA E)(hS:j9 E.sums)(hm:E.P.follows .mixedOrders=true){b ins outs}(hL:wK E.P A pre na nt b){X} mJ elim (hX:∀o R K,elim (pre+iA) (mJ o) R K=DQ (pre+iA) outs o K)
  (rec:Nat→Nat→rP ins→Option X) (h0:∀k d,rec k 0 d=none)
  (aI:∀k n d,rec k (n+1) d=Oh (pre+iA) ins d fun st=>kz E A k pre na nt b st (yN5 pre ins outs mJ (rec k n))):zS E.P pre na nt b ⟨ins,outs,X,fun k d=>rec k k d,elim⟩:=by
 intro k d x hx a0 M0 w0 a w Q r hQ;refine vB1 (fun n a w=>∃d,vW false na nt a0 M0 w0 (J1 (pre+iA) ins d) a w∧rec k n d=some x) (fun n a w ⟨d,r,hi⟩=>?_) ⟨d,r,hx⟩;cases n with
 |zero=>simp_all
 |succ n=>
  rw[aI k n d] at hi;refine ySq hE hS hm (by simp) b hL _ _ a w _ (vBu hi) r fun e bK a' w' r' h'=>?_
  have out:∀e,(match Jm pre outs e bK with|some o=>some (mJ o)|none=>none)=some x→Q e.toExit a' w':=fun e h'=>by
   split at h'
   ·rename_i o ho;obtain⟨h1,h2⟩:=yPm (pre:=pre) r' ho;grind
   ·cases h'
  cases e with
  |normal=>
   have h':(match DP pre ins bK with|some d=>rec k n d|none=>none)=some x:=h';split at h'
   ·rename_i d' hd;exact⟨n,by simp,d',Wd r' hd,h'⟩
   ·cases h'
  |ret=>exact out .ret h'
  |exit id=>exact out (.exit id) h'
theorem vXd fn tmps:results fn tmps=(do let vs←fn.results.mapM (O2 tmps);pure (if h:vs.size=1 then vs[0] else .tuple vs)):=rfl
theorem vVo (hE:gA E)(hS:j9 E.sums)(hm:E.P.follows .mixedOrders=true){st}{a:Act}{w x v M}(hM:M.h=st.h)(hH:M.H=w.heap)(ok:Ok M)(ht:∀t,zV M (st.t t) (a.tmps.getD t undef))(h:wx E st x=some v):
  ∃rv,(O2 a.tmps x).run E.P w=.ok rv w∧zV M v rv:=by
 unfold wx at h;split at h
 ·rename_i t;cases h;exact⟨_,rfl,ht t⟩
 ·rename_i c t;split at h
  ·rename_i id off hc;split at h
   ·split at h
    ·rename_i vs fe;have hv:=ht c;rw[hc] at hv;obtain⟨C,B,hC,hB,e⟩:=hv;obtain⟨C',aF,hO⟩:=ok.obj id _ (by rw[hM];omega);rw[hC] at aF;cases aF;obtain⟨B',fD,aH⟩:=yHb hO;rw[hB] at fD;cases fD;obtain⟨rv2,nM,dy⟩:∃rv,(loadVar t ⟨B,0+off,none⟩).run E.P w=.ok rv w∧zV M v rv:=vBv ok hH aH fe h;refine⟨rv2,?_,dy⟩;simp  at nM;unfold O2;dsimp only;rw[e];simp[asAddr,nM]
    ·cases h
   ·cases h
  ·cases h
theorem vWo {M v p rv}(h:DR v=some p)(hv:zV M v rv):wy M p rv:=by
 unfold DR at h;split at h
 ·cases h;exact hv
 ·cases h;exact hv
 ·cases h
theorem yUt {M}:∀{vs xs rs},zN (fun a b=>DR a=some b) vs xs→zN (zV M) vs rs→zN (wy M) xs rs
 |[],[],[],_,_=>trivial
 |_::_,_::_,_::_,h,k=>⟨vWo h.1 k.1,yUt h.2 k.2⟩
theorem yJ6 {st}:∀(l:List ResultVar) xs,l.mapM (fun r=>(wx E st r).bind DR)=some xs→∃vs,l.mapM (wx E st)=some vs∧vs.mapM DR=some xs
 |[],xs,h=>by simp_all
 |x::l,xs,h=>by
  simp only[List.mapM_cons,Option.bind_eq_bind,Option.bind_eq_some_iff] at h;obtain⟨p,⟨v,h1,h2⟩,ps,h3,h4⟩:=h;obtain⟨vs,k1,k2⟩:=yJ6 l ps h3;simp_all
theorem Wh (hE:gA E)(hS:j9 E.sums)(hm:E.P.follows .mixedOrders=true){fn st}{a:Act}{w v M}(hM:M.h=st.h)(hH:M.H=w.heap)(ok:Ok M)(ht:∀t,zV M (st.t t) (a.tmps.getD t undef))(h:Oj E fn st=some v):
  ∃rv,(results fn a.tmps).run E.P w=.ok rv w∧zV M v rv:=by
 have one:=fun x v=>vVo hE hS hm (x:=x) (v:=v) hM hH ok ht
 have key:∀(l:List ResultVar) (vs:List zW),l.mapM (wx E st)=some vs→∃rs:List Value,(l.mapM (O2 a.tmps)).run E.P w=.ok rs w∧zN (zV M) vs rs:=by
  intro l
  induction l with
  |nil=>exact fun vs h=>by simp at h;subst h;exact⟨[],rfl,trivial⟩
  |cons x l ih=>
   intro vs h;simp[Option.bind_eq_some_iff] at h;obtain⟨v,h1,UF,h2,h3⟩:=h;cases h3;obtain⟨rv,k1,k2⟩:=one x v h1;obtain⟨rs,k3,k4⟩:=ih UF h2;refine⟨rv::rs,?_,k2,k4⟩;simp_all
 have run:∀(vs:List zW),fn.results.toList.mapM (wx E st)=some vs→∃rs:List Value,(results fn a.tmps).run E.P w=.ok (if h:rs.length=1 then rs[0] else .tuple rs.toArray) w∧zN (zV M) vs rs:=fun vs h=>by
  obtain⟨rs,k1,k2⟩:=key _ vs h;refine⟨rs,?_,k2⟩;rw[vXd,Array.mapM_eq_mapM_toList];simp_all
 unfold Oj at h;split at h
 ·cases h;obtain⟨rs,k1,k2⟩:=run [] (by simp_all);cases rs with
  |cons _ _=>exact k2.elim
  |nil=>exact⟨_,k1,#[],rfl,trivial⟩
 ·obtain⟨rs,k1,k2⟩:=run [v] (by simp_all)
  match rs,k2 with
  |[r],k2=>exact⟨_,k1,k2.1⟩
 ·split at h
  ·rename_i xs JQ;cases h;obtain⟨vs,k1,k2⟩:=yJ6 _ _ JQ;obtain⟨rs,r1,r2⟩:=run vs k1;have hlen:rs.length≠1:=fun e=>by
    have e1:=r2.length;have e2:=(JP _ _ _ k1).length;have h3:fn.results.toList.length=1:=by omega
    match hl:fn.results.toList,h3 with
    |[x],_=>simp_all
   rw[dif_neg hlen] at r1;exact⟨_,r1,rs.toArray,rfl,yUt (JP _ _ _ k2) r2⟩
  ·cases h
theorem Wi (hE:gA E)(hS:j9 E.sums)(hm:E.P.follows .mixedOrders=true){f fn}(hf:E.P.funcs[f]? =some fn)(hL:∀c,fn.body=some c→wK E.P A pre na fn.ntmps c){args h K}(aV:kA E A k pre na fn args h K=some out){M w vs}(hh:M.h=h)(hH:M.H=w.heap)(ok:Ok M)
  (hv:zN (zV M) args vs.toList):Calls E.P f vs w fun
   |.returned rv,w'=>∃(M':zK) (v:zW) (st:St),K v st=some out∧M'.h=st.h∧M'.H=w'.heap∧Ok M'∧ka M M'∧(A.loops=[]→OU M M')∧zV M' v rv∧w'.os=w.os∧w'.tape=w.tape∧w'.output=w.output∧
     (∀t,t<na→zV M' (st.t t) (vs.getD t undef))
   |_,_=>False:=by
 unfold kA at aV;cases hb:fn.body with
 |none=>simp_all
 |some c=>
  rw[hb] at aV;dsimp only at aV;cases hle:Nat.ble args.length fn.ntmps with
  |false=>simp_all
  |true=>
   rw[hle] at aV;rw[cond_true] at aV;have hl:=hv.length;have hle:args.length≤fn.ntmps:=Nat.le_of_ble_eq_true hle;have dK:vs.size≤fn.ntmps:=by simp at hl;omega
   have J2:∀t,zV M (Ol args t) ((vs++Array.replicate (fn.ntmps-vs.size) undef).getD t undef):=fun t=>by
    unfold Ol;by_cases ht:t<args.length
    ·have Wj:t<vs.size:=by simp at hl;omega
     have:=hv.get t ht (by simpa using Wj);simp only[List.getD_eq_getElem?_getD,List.getElem?_eq_getElem ht,Option.getD_some];simp only[Array.getD_eq_getD_getElem?,Array.getElem?_append_left Wj,Array.getElem?_eq_getElem Wj,Option.getD_some]
     simpa using this
    ·simp only[List.getD_eq_getElem?_getD,List.getElem?_eq_none (Nat.not_lt.1 ht),Option.getD_none];show _=undef;simp;grind
   have r:vW A.loops.isEmpty na fn.ntmps (fun t=>(vs++Array.replicate (fn.ntmps-vs.size) undef).getD t undef) M w {t:=Ol args,h:=h} {tmps:=vs++Array.replicate (fn.ntmps-vs.size) undef,defers:=[]} w:=
    ⟨⟨M,hh,hH,ok,⟨.refl M,fun _ _ C h=>⟨C,h,rfl⟩⟩,J2⟩,rfl,by simp;omega,rfl,rfl,rfl,fun _ _=>rfl⟩
   refine calls_of_wp hf hb (ySq hE hS hm (by simp) c (hL c hb) _ _ _ _ _ aV r fun e bK a' w' r' hK=>?_);obtain⟨M',q1,q2,q3,q4,q5⟩:=r'.ex;have fin:∀v,Oj E fn bK=some v→K v bK=some out→a'.defers=[]∧∃rv,(results fn a'.tmps).run E.P w'=.ok rv w'∧∃(M':zK) (v:zW) (st:St),K v st=some out∧M'.h=st.h∧M'.H=w'.heap∧Ok M'∧ka M M'∧(A.loops=[]→OU M M')∧zV M' v rv∧w'.os=w.os∧w'.tape=w.tape∧w'.output=w.output∧
     (∀t,t<na→zV M' (st.t t) (vs.getD t undef)):=fun v kJ hK=>by
    obtain⟨rv,k1,k2⟩:=Wh hE hS hm q1 q2 q3 q5 kJ;refine⟨r'.defers,rv,k1,M',v,bK,hK,q1,q2,q3,q4.g,fun h=>q4.k (by grind),k2,r'.os,r'.tape,r'.output,fun t ht=>?_⟩;have:=q5 t;rw[r'.keep t ht] at this;have e:(vs++Array.replicate (fn.ntmps-vs.size) undef).getD t undef=vs.getD t undef:=by
     by_cases h1:t<vs.size
     ·simp[Array.getD_eq_getD_getElem?,Array.getElem?_append_left h1]
     ·simp;grind
    simp_all
   cases e with
   |exit id=>cases hK
   |normal=>
    dsimp only at hK;split at hK
    ·rename_i v kJ;exact fin v kJ hK
    ·cases hK
   |ret=>
    dsimp only at hK;split at hK
    ·rename_i v kJ;exact fin v kJ hK
    ·cases hK
end
inductive PC where
 |int (k:IntKind)|bool|dat (sh:Bool) (t:Ty)|fn (f:Nat)
 |nil|nilp
abbrev PC.den:PC→Type
 |.int _=>Int|.bool=>Bool|.dat _ t=>List t.den|.fn _=>Unit|.nil=>Unit|.nilp=>Unit
abbrev PL:List PC→Type
 |[]=>Unit
 |p::l=>p.den×PL l
inductive AS where
 |c (p:PC)|agg (l:List PC)|ptr (l:List PC)|fn (f:Nat) (bA:List (List PC))
def AS.cells:AS→List PC
 |.c p=>[p]
 |.agg l=>l
 |.ptr l=>l
 |.fn _ bA=>bA.flatten
abbrev AD (l:List AS):Type:=PL (l.flatMap AS.cells)
def Bp (h:Hp)(t:Ty):qA→Option (List t.den)
 |.nsl=>some []
 |c=>match ky h c with
  |some ⟨s,xs⟩=>iu s t xs
  |none=>none
def ug (h:Hp):(p:PC)→qA→Option p.den
 |.int k,.int j n=>bif gv j k then some n else none
 |.bool,.bool b=>some b
 |.dat false t,c=>Bp h t c
 |.dat true t,.fsl true s xs=>iu s t xs
 |.dat true t,.nsl=>some []
 |.fn f,.fn g []=>bif Nat.beq f g then some () else none
 |.nil,.nsl=>some ()
 |.nilp,.nilp=>some ()
 |_,_=>none
def Bq (h:Hp):(l:List PC)→List qA→Option (PL l)
 |[],[]=>some ()
 |p::l,c::cs=>match ug h p c,Bq h l cs with
  |some d,some ds=>some (d,ds)
  |_,_=>none
 |_,_=>none
def Ep (h:Hp)(id:Nat):Option (List qA):=match h id with
 |some (.box _ cells)=>some cells
 |some (.robox cells)=>some cells
 |_=>none
def uh (h:Hp):List (List PC)→List Nat→Option (List qA)
 |[],[]=>some []
 |l::ls,id::ids=>match Ep h id,uh h ls ids with
  |some cells,some rest=>bif Nat.beq cells.length l.length then some (cells++rest) else none
  |_,_=>none
 |_,_=>none
def AS.get (h:Hp):AS→zW→Option (List qA)
 |.c _,.c x=>some [x]
 |.agg l,.agg xs=>bif Nat.beq xs.length l.length then some xs else none
 |.ptr l,.c (.ptr id 0)=>uh h [l] [id]
 |.fn f bA,.c (.fn g ids)=>bif Nat.beq f g then uh h bA ids else none
 |_,_=>none
def sn (h:Hp):List AS→List zW→Option (List qA)
 |[],[]=>some []
 |s::l,a::as=>match s.get h a,sn h l as with
  |some cs,some rest=>some (cs++rest)
  |_,_=>none
 |_,_=>none
def Br (h:Hp) l (as:List zW):Option (AD l):=match sn h l as with
 |some cs=>Bq h (l.flatMap AS.cells) cs
 |none=>none
def Er:(p:PC)→p.den→qA
 |.int k,n=>.int k n
 |.bool,b=>.bool b
 |.dat sh t,xs=>.fsl sh t xs
 |.fn f,_=>.fn f []
 |.nil,_=>.nsl
 |.nilp,_=>.nilp
def wA:(l:List PC)→PL l→List qA
 |[],_=>[]
 |p::l,d=>Er p d.1::wA l d.2
def O3:List (List PC)→List qA→List (List qA)
 |[],_=>[]
 |l::ls,cs=>cs.take l.length::O3 ls (cs.drop l.length)
def AS.mk (n:Nat)(cs:List qA):AS→zW
 |.c _=>match cs with|x::_=>.c x|[]=>.undef
 |.agg _=>.agg cs
 |.ptr _=>.c (.ptr n 0)
 |.fn f bA=>.c (.fn f ((List.range bA.length).map (n+·)))
def AS.boxes (cs:List qA):AS→List (List qA)
 |.ptr _=>[cs]
 |.fn _ bA=>O3 bA cs
 |_=>[]
def ma:List AS→List qA→Nat→List zW×List (List qA)
 |[],_,_=>([],[])
 |s::l,cs,n=>
  let aq:=cs.take s.cells.length;let bs:=s.boxes aq;let rest:=ma l (cs.drop s.cells.length) (n+bs.length)
  (s.mk n aq::rest.1,bs++rest.2)
def mb (bs:List (List qA)):Hp:=fun n=>match bs[n]? with
 |some cells=>some (.robox cells)
 |none=>none
def pW l (d:AD l):List zW×Hp:=
 let r:=ma l (wA (l.flatMap AS.cells) d) 0
 (r.1,mb r.2)
inductive RC where
 |int (k:IntKind)|bool|fro (t:Ty)|own (t:Ty)|mat
 |jun
 |map
 |nilp|link (j:Nat)|nil
abbrev RC.den:RC→Type
 |.int _=>Int|.bool=>Bool|.fro t=>List t.den|.own t=>List t.den|.mat=>List (List Int)|.jun=>Nat|.map=>List (Int×Bool)|.nilp=>Unit|.link _=>Unit|.nil=>Unit
abbrev RL:List RC→Type
 |[]=>Unit
 |r::l=>r.den×RL l
inductive RS where
 |c (r:RC)|agg (l:List RC)|tup (l:List (Bool×List RC))
def RS.cells:RS→List RC
 |.c r=>[r]
 |.agg l=>l
 |.tup l=>l.flatMap (·.2)
def Wk:List (Bool×List RC)→List (Bool×List qA)→Option (List qA)
 |[],[]=>some []
 | (b, l) :: ls, (g, cs) :: rest => bif (bif b then g else !g && Nat.beq cs.length 1) && Nat.beq cs.length l.length then (match Wk ls rest with
   |some r=>some (cs++r)
   |none=>none) else none
 |_,_=>none
def RS.get:RS→zW→Option (List qA)
 |.c _,.c x=>some [x]
 |.agg l,.agg xs=>bif Nat.beq xs.length l.length then some xs else none
 |.tup l,.tup xs=>Wk l xs
 |_,_=>none
def Wl:List (Bool×List RC)→List qA→List (Bool×List qA)
 |[],_=>[]
 |(b,l)::ls,cs=>(b,cs.take l.length)::Wl ls (cs.drop l.length)
def RS.mk (cs:List qA):RS→zW
 |.c _=>match cs with|x::_=>.c x|[]=>.undef
 |.agg _=>.agg cs
 |.tup l=>.tup (Wl l cs)
def gD (h:Hp):List Bool→List qA→Option (List qA×vG)
 |true::l,c::cs=>match oM h c,gD h l cs with
  |some (c,u),some (cs,us)=>some (c::cs,u++us)
  |_,_=>none
 |false::l,c::cs=>match gD h l cs with
  |some (cs,us)=>some (c::cs,us)
  |none=>none
 |_,cs=>some (cs,[])
def RC.isFro:RC→Bool
 |.fro _=>true
 |_=>false
def PC.isKept:PC→Bool
 |.dat true _=>true
 |_=>false
def pX (h:Hp):(r:RC)→qA→Option r.den
 |.int k,.int j n=>bif gv j k then some n else none
 |.bool,.bool b=>some b
 |.fro t,.fsl true s xs=>iu s t xs
 |.fro t,.nsl=>some []
 |.own t,.osl id none=>match h id with
  |some (.arr true s xs)=>iu s t xs
  |_=>none
 |.own t,.osl id (some (0,n))=>match h id with
  |some (.arr true s xs)=>iu s t (xs.take n)
  |_=>none
 |.own t,.nsl=>some []
 |.mat,.osl id none=>match h id with
  |some (.mat _ xs)=>some xs
  |some (.pmat _ xs n)=>bif Nat.beq xs.length n then some xs else none
  |_=>none
 |.mat,.nsl=>some []
 |.jun,.osl id none=>match h id with
  |some (.arr true (.sl (.int .i64)) xs)=>some xs.length
  |_=>none
 |.jun,.nsl=>some 0
 |.map,.map id=>match h id with
  |some (.imap df)=>some df
  |_=>none
 |.nilp,.nilp=>some ()
 |.link _,.ptr _ 0=>some ()
 |.nil,.nsl=>some ()
 |_,_=>none
def kK (h:Hp):(l:List RC)→List qA→Option (RL l)
 |[],[]=>some ()
 |r::l,c::cs=>match pX h r c,kK h l cs with
  |some d,some ds=>some (d,ds)
  |_,_=>none
 |_,_=>none
def wG:List RC→List qA→List Nat
 |.own _::l,.osl id _::cs=>id::wG l cs
 |.mat::l,.osl id _::cs=>id::wG l cs
 |.jun::l,.osl id _::cs=>id::wG l cs
 |.map::l,.map id::cs=>id::wG l cs
 |_::l,_::cs=>wG l cs
 |_,_=>[]
def J3 (h:Hp)(s:RS)(v:zW):Option (RL s.cells):=match s.get v with
 |some cs=>match gD h (s.cells.map RC.isFro) cs with
  |some (cs,u)=>bif tH (wG s.cells cs) then kK (qH h u) s.cells cs else none
  |none=>none
 |none=>none
def mT (rs:RS){X:Type}(unpack:RL rs.cells→X)(v:zW)(st:St):Option X:=match J3 st.h rs v with
 |some d=>some (unpack d)
 |none=>none
def so (nm:Nat):(r:RC)→r.den→qA×vG
 |.int k,n=>(.int k n,[])
 |.bool,b=>(.bool b,[])
 |.fro t,xs=>(.fsl true t xs,[])
 |.own t,xs=>(.osl nm none,[(nm,.arr true t xs)])
 |.mat,xs=>(.osl nm none,[(nm,.mat 0 xs)])
 |.jun,n=>(.osl nm none,[(nm,.pmat 0 [] n)])
 |.map,df=>(.map nm,[(nm,.imap df)])
 |.nilp,_=>(.nilp,[])
 |.link _,_=>(.undef,[])
 |.nil,_=>(.nsl,[])
def oW (nm:Nat):(l:List RC)→RL l→List qA×vG
 |[],_=>([],[])
 |r::l,d=>
  let x:=so nm r d.1;let y:=oW (nm+1) l d.2
  (x.1::y.1,x.2++y.2)
def vDd (nm:Nat)(s:RS)(d:RL s.cells):zW×vG:=
 let r:=oW nm s.cells d
 (s.mk r.1,r.2)
def xj (h:Hp):Nat→Nat→Bool
 |_,0=>true
 |nm,n+1=>(match h nm with|none=>true|some _=>false)&&xj h (nm+1) n
def xk (h:Hp):AS→zW→Option (zW×vG)
 |.c p,.c x=>match gD h [p.isKept] [x] with
  |some ([x],u)=>some (.c x,u)
  |_=>none
 |.agg l,.agg xs=>match gD h (l.map PC.isKept) xs with
  |some (xs,u)=>some (.agg xs,u)
  |none=>none
 |_,a=>some (a,[])
def sr (h:Hp):List AS→List zW→Option (List zW×vG)
 |s::l,a::as=>match xk h s a,sr h l as with
  |some (a,u),some (as,us)=>some (a::as,u++us)
  |_,_=>none
 |_,as=>some (as,[])
def oX as (rs:RS){X}(S:AD as→Option X)(pack:X→RL rs.cells)(nm:Nat)(args:List zW)(h:Hp):yU:=
 match sr h as args with
 |none=>.stuck
 |some (args,u)=>match Br (qH h u) as args with
  |some d=>bif xj h nm rs.cells.length&&Nat.ble rs.cells.length 100 then .call X (S d) (fun r=>((vDd nm rs (pack r)).1,u++(vDd nm rs (pack r)).2)) else .stuck
  |none=>.stuck
structure Lo (M Ml:zK):Prop where
 H:Ml.H=M.H
 F:Ml.F=fun b=>b<M.H.size
 G:Ml.G=M.G
theorem Wm {M M':zK}(ok:Ok M')(hH:M'.H=M.H){t}{xs:List t.den}{v}(h:qF M'.H M'.G (.sl t) xs (fun _=>some v)):qF M.H (fun b=>b<M.H.size) (.sl t) xs (fun _=>some v):=by
 refine vB (fun b hb=>?_) (by grind) _ _ _ _ (by simp) h;have:=ok.Flt b (ok.GF b hb);simp_all
theorem Wn {M}(ok:Ok M){c v t xs}(hv:zX M c v)(h:ky M.h c=some ⟨t,xs⟩):qF M.H (fun b=>b<M.H.size) (.sl t) xs (fun _=>some v):=by
 unfold ky at h;split at h
 ·rename_i sh s ys;cases h;cases sh with
  |true=>exact vB (fun b hb=>ok.Flt b (ok.GF b hb)) (by simp) _ _ _ _ (fun _ _=>rfl) hv
  |false=>exact vB (fun b hb=>ok.Flt b hb) (by simp) _ _ _ _ (fun _ _=>rfl) hv
 ·rename_i id r;split at h
  ·rename_i own s ys an;cases h;cases own with
   |false=>
    obtain⟨C,hC,hO⟩:=ok.obj _ _ an;exact Wm ok rfl (AY hC hO hv)
   |true=>
    obtain⟨M',h1,h2,h3,h4⟩:=yGx ok an;obtain⟨C,hC,hO⟩:=h3.obj id _ (by rw[h2];exact yR _ _ _);exact Wm h3 h1 (AY hC hO (hv.ext h4.ext))
  ·rename_i ver ys an;cases r with
   |some p=>cases h
   |none=>
    cases h;obtain⟨M',h1,h2,h3,h4⟩:=vGz ok an;obtain⟨C,hC,hO⟩:=h3.obj id _ (by rw[h2];exact yR _ _ _);exact Wm h3 h1 (AY (r:=none) hC hO (hv.ext h4.ext))
  ·cases h
 ·rename_i id i ver;split at h
  ·rename_i v' ys an;cases fS:Nat.beq v' ver with
   |false=>simp_all
   |true=>
    rw[fS] at h;cases h;have e:v'=ver:=by simpa using fS
    subst e;obtain⟨C,hC,hO⟩:=ok.obj _ _ an;obtain⟨C',aF,bU,_,aT⟩:=hv;rw[hC] at aF;cases aF;obtain⟨rb,rl,xd,si⟩:=aT hO.1;by_cases hi:i<ys.length
    ·obtain⟨B,pN,v2,k1,k2,k3,k4,k5,k6⟩:=DV hO hi;rw[xd] at k3;cases k3;rw[show ys.getD i []=ys[i] by simp_all];simp only[qF];cases rb with
     |none=>
      obtain⟨rfl,h0⟩:=si;grind
     |some R=>
      obtain⟨a,c,rfl,h1,h2,h3⟩:=si;refine⟨_,_,c,rfl,rfl,h1,?_⟩;by_cases h0:ys[i].length=0
      ·simp_all
      ·have ha:a=0:=by omega
       subst ha;refine .inr ⟨R,0,rfl,?_,fun j hj=>?_⟩
       ·have:=k6 R rfl 0 (by omega);unfold yW at this;grind
       ·simp only[Ty.size];simp_all
    ·have:C.rows[i]? =none:=List.getElem?_eq_none (by have:=hO.2.2.2.1;omega);simp_all
  ·cases h
 ·cases h
theorem J4 {H F t}:qF H F (.sl t) ([]:List t.den) (fun _=>some (.slice none 0 0)):=⟨none,0,0,rfl,rfl,by simp,by simp⟩
theorem Wo {M}(ok:Ok M){c v t xs}(hv:zX M c v)(h:Bp M.h t c=some xs):qF M.H (fun b=>b<M.H.size) (.sl t) xs (fun _=>some v):=by
 unfold Bp at h;split at h
 ·cases h;rw[show v=.slice none 0 0 from hv];exact J4
 ·split at h
  ·rename_i s ys hr;obtain⟨e,hx⟩:=lq h;subst e;subst hx;exact Wn ok hv hr
  ·cases h
def Tr (M:zK)(c c':qA):Prop:=∀v Ml,Lo M Ml→zX M c v→zX Ml c' v
theorem vQn {M}(ok:Ok M){p c d}(h:ug M.h p c=some d):Tr M c (Er p d):=by
 intro v Ml lo hv;unfold ug at h;split at h
 ·rename_i k j n;cases e:gv j k with
  |false=>simp_all
  |true=>rw[e] at h;cases h;rw[←tD e];exact hv
 ·cases h;exact hv
 ·have:=Wo ok hv h;show qF Ml.H Ml.F _ _ _;rw[lo.H,lo.F];omega
 ·obtain⟨e,hx⟩:=lq h;subst e;subst hx;show qF Ml.H Ml.G _ _ _;rw[lo.H,lo.G];exact hv
 ·cases h;rw[show v=.slice none 0 0 from hv];exact J4
 ·rename_i f g;cases e:Nat.beq f g with
  |false=>simp_all
  |true=>
   have:f=g:=by simp_all
   subst this;obtain⟨cv,rfl,hc⟩:=hv;refine⟨cv,rfl,?_⟩;generalize cv.toList=l at hc;cases l with
   |nil=>trivial
   |cons _ _=>exact hc.elim
 ·exact hv
 ·exact hv
 ·cases h
theorem vKa {M}(ok:Ok M):∀{l cs d},Bq M.h l cs=some d→zN (Tr M) cs (wA l d)
 |[],[],_,_=>trivial
 |p::l,c::cs,d,h=>by
  unfold Bq at h;split at h
  ·rename_i x xs h1 h2;cases h;exact⟨vQn ok h1,vKa ok h2⟩
  ·cases h
theorem Wp {M Ml}(lo:Lo M Ml):∀{cs aS vs},zN (Tr M) cs aS→zN (zX M) cs vs→zN (zX Ml) aS vs
 |[],[],[],_,_=>trivial
 |_::_,_::_,_::_,h,k=>⟨h.1 _ _ lo k.1,Wp lo h.2 k.2⟩
def xl (M:zK)(C:qC)(cells:List qA):Prop:=∃B vals e,C.blk=some B∧C.rows=[]∧M.H[B]? =some (.cells vals e (0,0))∧zN (zX M) cells vals.toList
theorem yWj {M}(ok:Ok M){id cells}(h:Ep M.h id=some cells):∃C,M.κ id=some C∧xl M C cells:=by
 unfold Ep at h;split at h
 ·rename_i own cs an;cases h;obtain⟨C,hC,B,vals,e,h1,h2,h3,h4,_⟩:=ok.obj id _ an;exact⟨C,hC,B,vals,e,h1,h2,h3,h4⟩
 ·rename_i cs an;cases h;obtain⟨C,hC,B,vals,e,h1,h2,h3,h4,_⟩:=ok.obj id _ an;exact⟨C,hC,B,vals,e,h1,h2,h3,h4⟩
 ·cases h
theorem xl.tr {M Ml}(lo:Lo M Ml){C cs aS}(h:xl M C cs)(ht:zN (Tr M) cs aS):xl Ml C aS:=by
 obtain⟨B,vals,e,h1,h2,h3,h4⟩:=h;exact⟨B,vals,e,h1,h2,by rw[lo.H];exact h3,Wp lo ht h4⟩
theorem Wq {M}(ok:Ok M):∀{ls ids cs aS},uh M.h ls ids=some cs→zN (Tr M) cs aS→cs.length=ls.flatten.length∧ids.length=ls.length∧
  ∃Cs:List qC,zN (fun id C=>M.κ id=some C) ids Cs∧∀Ml,Lo M Ml→zN (xl Ml) Cs (O3 ls aS)
 |[],[],cs,aS,h,ht=>by cases h;exact⟨rfl,rfl,[],trivial,fun _ _=>trivial⟩
 |l::ls,id::ids,cs,aS,h,ht=>by
  unfold uh at h;split at h
  ·rename_i cells rest h1 h2;obtain⟨hl,h⟩:cells.length=l.length∧cells++rest=cs:=by
    cases e:Nat.beq cells.length l.length with
    |false=>simp_all
    |true=>simp_all
   subst h;have oY:=zN.take l.length ht;have nO:=zN.drop l.length ht;rw[←hl,List.take_left] at oY;rw[←hl,List.drop_left] at nO;obtain⟨C,hC,hB⟩:=yWj ok h1;obtain⟨k1,k2,Cs,k3,k4⟩:=Wq ok h2 nO;refine⟨by simp_all,by simp[k2],C::Cs,⟨hC,k3⟩,fun Ml lo=>⟨?_,?_⟩⟩
   ·rw[←hl];exact hB.tr lo oY
   simp_all
  ·cases h
theorem Wr {M}(ok:Ok M){s:AS}{a v cs aS n}(hv:zV M a v)(h:s.get M.h a=some cs)(ht:zN (Tr M) cs aS):
  ∃Cs:List qC,(∀Ml,Lo M Ml→zN (xl Ml) Cs (s.boxes aS))∧(∀Ml,Lo M Ml→(∀i C,Cs[i]? =some C→Ml.κ (n+i)=some C)→zV Ml (s.mk n aS) v):=by
 unfold AS.get at h;split at h
 ·cases h
  match aS,ht with
  |[c'],ht=>exact⟨[],fun _ _=>trivial,fun Ml lo _=>ht.1 v Ml lo hv⟩
 ·rename_i l xs;cases e:Nat.beq xs.length l.length with
  |false=>simp_all
  |true=>
   rw[e] at h;cases h;obtain⟨vs,rfl,hx⟩:=hv;exact⟨[],fun _ _=>trivial,fun Ml lo _=>⟨vs,rfl,Wp lo ht hx⟩⟩
 ·rename_i l id;have:=Wq ok h ht;obtain⟨k1,k2,Cs,k3,k4⟩:=this;obtain⟨C,B,hC,hB,e⟩:=hv;have hl:aS.length=l.length:=by rw[←ht.length,k1];simp
  match Cs,k3 with
  |[C'],k3=>
   have e':C'=C:=by
    have:M.κ id=some C':=k3.1;simp_all
   subst e';refine⟨[C'],fun Ml lo=>?_,fun Ml lo hκ=>⟨C',B,hκ 0 C' rfl,hB,e⟩⟩;have:=k4 Ml lo;simp[O3] at this;rw[List.take_of_length_le (by omega)] at this;exact this
 ·rename_i f bA g ids;cases e:Nat.beq f g with
  |false=>simp_all
  |true=>
   rw[e] at h;have Ws:f=g:=by simp_all
   subst Ws;obtain⟨k1,k2,Cs,k3,k4⟩:=Wq ok h ht;refine⟨Cs,k4,fun Ml lo hκ=>?_⟩;obtain⟨cv,rfl,hc⟩:=hv;refine⟨cv,rfl,?_⟩;have l1:=k3.length;have l2:=hc.length;refine zN.of_get (by simp_all) fun i h1 h2=>?_
   simp;have hi:i<ids.length:=by omega
   have bJ:i<Cs.length:=by omega
   obtain⟨C,B,q1,q2,q3⟩:=hc.get i hi h2;have q4:=k3.get i hi bJ;simp_all
 ·cases h
theorem Wt {h}:∀{ls ids cs},uh h ls ids=some cs→cs.length=ls.flatten.length
 |[],[],cs,e=>by cases e;rfl
 |l::ls,id::ids,cs,e=>by
  unfold uh at e;split at e
  ·rename_i cells rest h1 h2;cases el:Nat.beq cells.length l.length with
   |false=>simp_all
   |true=>
    rw[el] at e;cases e;have:cells.length=l.length:=by simp_all
    simp[this,Wt h2]
  ·cases e
theorem Wu {h}{s:AS}{a cs}(e:s.get h a=some cs):cs.length=s.cells.length:=by
 unfold AS.get at e;split at e
 ·cases e;rfl
 ·rename_i l xs;cases el:Nat.beq xs.length l.length with
  |false=>simp_all
  |true=>rw[el] at e;cases e;exact Nat.eq_of_beq_eq_true el
 ·rw[Wt e];simp[AS.cells]
 ·rename_i f bA g ids;cases el:Nat.beq f g with
  |false=>simp_all
  |true=>rw[el] at e;exact Wt e
 ·cases e
theorem yI3 {M}(ok:Ok M):∀{l as vs cs aS n},zN (zV M) as vs→sn M.h l as=some cs→zN (Tr M) cs aS→
  ∃Cs:List qC,(∀Ml,Lo M Ml→zN (xl Ml) Cs (ma l aS n).2)∧(∀Ml,Lo M Ml→(∀i C,Cs[i]? =some C→Ml.κ (n+i)=some C)→zN (zV Ml) (ma l aS n).1 vs)
 |[],[],[],cs,aS,n,_,_,_=>⟨[],fun _ _=>trivial,fun _ _ _=>trivial⟩
 |s::l,a::as,v::vs,cs,aS,n,hv,h,ht=>by
  unfold sn at h;split at h
  ·rename_i mQ rest h1 h2;cases h;have hl:=Wu h1;have oY:=zN.take s.cells.length ht;have nO:=zN.drop s.cells.length ht;rw[←hl,List.take_left,hl] at oY;rw[←hl,List.drop_left,hl] at nO;obtain⟨C1,k1,k2⟩:=Wr ok (n:=n) hv.1 h1 oY;obtain⟨C2,k3,k4⟩:=yI3 ok (n:=n+(s.boxes (aS.take s.cells.length)).length) hv.2 h2 nO;refine⟨C1++C2,fun Ml lo=>(k1 Ml lo).append (k3 Ml lo),fun Ml lo hκ=>⟨k2 Ml lo fun i C hi=>hκ i C ?_,k4 Ml lo fun i C hi=>?_⟩⟩
   ·grind
   ·have hb:=(k1 Ml lo).length;have:=hκ (C1.length+i) C (by grind);grind
  ·cases h
def zK.below (M:zK)(Cs:List qC)(bs:List (List qA)):zK:={κ:=fun n=>Cs[n]?,F:=fun b=>b<M.H.size,G:=M.G,h:=mb bs,H:=M.H}
theorem zK.below_lo M Cs bs:Lo M (M.below Cs bs):=⟨rfl,rfl,rfl⟩
theorem zK.below_ok {M}(ok:Ok M){Cs bs}(h:zN (xl (M.below Cs bs)) Cs bs):Ok (M.below Cs bs)∧∀b,¬qN (M.below Cs bs) b:=by
 have hr:∀id o,(M.below Cs bs).h id=some o→∃cells,bs[id]? =some cells∧o=.robox cells:=fun id o e=>by
  have e:mb bs id=some o:=e;unfold mb at e;grind
 have J5:∀b,¬qN (M.below Cs bs) b:=fun b ⟨id,o,C,h1,h2,_,_⟩=>by
  obtain⟨cells,_,rfl⟩:=hr id o h1;cases h2
 refine⟨⟨fun id o e=>?_,fun id e=>?_,fun i j oi oj Ci Cj b _ h1 _ h3 _ _ _ _ _=>?_,by grind,fun b hb=>ok.Flt b (ok.GF b hb),fun b hb=>hb⟩,J5⟩
 ·obtain⟨cells,hc,rfl⟩:=hr id o e;have bd:id<bs.length:=by
   grind
  have kB:id<Cs.length:=by rw[h.length];omega
  obtain⟨B,vals,ev,q1,q2,q3,q4⟩:=h.get id kB bd;rw[List.getElem?_eq_getElem bd] at hc;cases hc;refine⟨Cs[id],List.getElem?_eq_getElem kB,B,vals,ev,q1,q2,q3,q4,?_⟩;exact(Array.getElem?_eq_some_iff.1 q3).1
 ·have e:mb bs id=none:=e;unfold mb at e;split at e
  ·cases e
  ·rename_i hc;show Cs[id]? =none;rw[List.getElem?_eq_none_iff] at hc⊢;rw[h.length];exact hc
 ·obtain⟨cells,_,rfl⟩:=hr i oi h1;cases h3
theorem vVe {M}(ok:Ok M){l as vs d}(hv:zN (zV M) as vs)(h:Br M.h l as=some d):
  ∃Ml:zK,Lo M Ml∧Ml.h=(pW l d).2∧Ok Ml∧(∀b,¬qN Ml b)∧zN (zV Ml) (pW l d).1 vs:=by
 unfold Br at h;split at h
 ·rename_i cs hg;obtain⟨Cs,h1,h2⟩:=yI3 ok (n:=0) hv hg (vKa ok h);have lo:=M.below_lo Cs (ma l (wA (l.flatMap AS.cells) d) 0).2;have:=zK.below_ok ok (h1 _ lo);exact⟨_,lo,rfl,this.1,this.2,h2 _ lo fun i C hi=>by rw[Nat.zero_add];exact hi⟩
 ·cases h
theorem xm {h0}:∀{l cs aS vs u M},Ok M→jD h0 M.h→zN (zX M) cs vs→gD h0 l cs=some (aS,u)→
  ∃L:zK,L.H=M.H∧L.h=qH M.h u∧Ok L∧yO M L∧zN (zX L) aS vs∧jD h0 L.h
 |[],cs,aS,vs,u,M,ok,hf,hc,h=>by
  cases cs<;>cases h<;>exact⟨M,rfl,rfl,ok,.refl M,hc,hf⟩
 |true::l,[],aS,vs,u,M,ok,hf,hc,h
 |false::l,[],aS,vs,u,M,ok,hf,hc,h=>by cases h;exact⟨M,rfl,rfl,ok,.refl M,hc,hf⟩
 |true::l,c::cs,aS,v::vs,u,M,ok,hf,hc,h=>by
  unfold gD at h;split at h
  ·rename_i c1 u1 mQ rU e1 e2;cases h;obtain⟨M1,h1,h2,h3,h4,h5,h6,_⟩:=Jq ok hf hc.1 e1;obtain⟨M2,k1,k2,k3,k4,k5,k6⟩:=xm h3 h6 (hc.2.mono fun _ _ h=>h.ext h4.ext) e2;exact⟨M2,k1.trans h1,by rw[k2,h2,ll],k3,h4.trans k4,⟨h5.ext k4.ext,k5⟩,k6⟩
  ·cases h
 |false::l,c::cs,aS,v::vs,u,M,ok,hf,hc,h=>by
  unfold gD at h;split at h
  ·rename_i mQ rU e2;cases h;obtain⟨M2,k1,k2,k3,k4,k5,k6⟩:=xm ok hf hc.2 e2;exact⟨M2,k1,k2,k3,k4,⟨hc.1.ext k4.ext,k5⟩,k6⟩
  ·cases h
def zK.add (M:zK)(nm:Nat)(o:Obj)(C:qC):zK:={M with κ:=κset M.κ nm C,h:=yL M.h nm o}
theorem zK.add_ok {M}(ok:Ok M){nm}(aU:M.h nm=none){o C}(hO:yY (M.add nm o C) o C)(hb:∀b∈C.fp,¬qN M b∧¬M.F b∧b<M.H.size):
  Ok (M.add nm o C)∧yS M (M.add nm o C)∧(∀b,qN (M.add nm o C) b→qN M b∨b∈C.fp):=by
 have x:yS M (M.add nm o C):=⟨fun id D h=>by
  have bx:id≠nm:=fun e=>by rw[e,ok.non nm aU] at h;cases h
  exact⟨D,by show κset M.κ nm _ id=_;rw[κset_ne _ _ bx];exact h,D.le_refl⟩,fun _ h=>h,fun _ h=>h,fun _ _=>rfl,fun _ _=>rfl,fun _ _=>rfl⟩
 refine⟨Ok.build ok x (fun id=>id=nm) (fun id h=>yV _ _ h) (fun id h=>κset_ne _ _ h) (fun _ _ _ _ _ _ _ _ _=>rfl) (fun id o' D h1 h2 h3 h4 b bg=>(ok.own b ⟨id,o',D,h2,h3,h4,bg⟩).1) (Nat.le_refl _)
  (fun id o' e h=>?_) (fun id e h=>?_) (fun id o' D b e h1 h2 h3 h4=>?_) ok.GF ok.Flt,x,fun b bg=>?_⟩
 ·subst e;have e1:(M.add id o C).h id=some o:=yR _ _ _;rw[e1] at h;cases h;exact⟨_,κset_same _ _ _,hO⟩
 ·have e1:(M.add id o C).h id=some o:=yR _ _ _;simp_all
 ·subst e;have e1:(M.add id o C).κ id=some C:=κset_same _ _ _;rw[e1] at h3;cases h3;obtain⟨k1,k2,k3⟩:=hb b h4;refine⟨fun j oj Cj hj q1 q2 q3 q4=>k1 ⟨j,oj,Cj,?_,q2,?_,q4⟩,k2,k3⟩
  ·rw[←q1];exact(yV _ _ hj).symm
  ·rw[←q3];exact(κset_ne _ _ hj).symm
 ·obtain⟨id,o',D,h1,h2,h3,h4⟩:=bg;by_cases e:id=nm
  ·have e1:(M.add id o C).κ id=some C:=κset_same _ _ _;simp_all
  ·exact .inl ⟨id,o',D,by rw[←h1];exact(yV _ _ e).symm,h2,by rw[←h3];exact(κset_ne _ _ e).symm,h4⟩
structure Up (L Mc:zK):Prop where
 H:Mc.H=L.H
 G:Mc.G=L.G
theorem vI0 {L Mc}(up:Up L Mc){t xs C}(h:yY L (.arr true t xs) C):yY Mc (.arr true t xs) C:=by
 obtain⟨h1,h2,h3,h4⟩:=h;refine⟨h1,h2,h3,?_⟩;rw[up.H,up.G];exact h4
theorem vZ6 {L Mc}(up:Up L Mc){ver xs C}(h:yY L (.mat ver xs) C):yY Mc (.mat 0 xs) {C with ver:=0}:=by
 obtain⟨h1,h2⟩:=h;refine⟨rfl,?_⟩;rw[up.H];exact h2
theorem vUp {L Mc}(up:Up L Mc){ver n xs C}(h:yY L (.pmat ver xs n) C)(hn:xs.length=n):yY Mc (.mat 0 xs) {C with ver:=0}:=by
 obtain⟨h1,h2,h3,h4,h5,_,h6⟩:=h;refine⟨rfl,by rw[hn];exact h2,h3,h4,h5,?_⟩;rw[up.H];subst hn;simp_all
theorem vUm {L Mc}(up:Up L Mc){xs:List (List Int)}{C}(h:yY L (.arr true (.sl (.int .i64)) xs) C):yY Mc (.pmat 0 [] xs.length) {C with ver:=0}:=by
 obtain⟨h1,h2,h3,h4⟩:=h;have hr:=h3 rfl;refine⟨rfl,h1,h2,by simp_all,?_,by simp,?_⟩
 ·simp[qC.fp];grind
 ·cases hB:C.blk with
  |none=>simp_all
  |some B=>
   rw[hB] at h4;obtain⟨vals,e,h5,_,h7,_⟩:=h4;refine⟨vals,e,by rw[up.H];exact h5,by simpa[Ty.size] using h7,by simp⟩
theorem vW5 {L Mc}(iT:Ok L)(ok:Ok Mc)(up:Up L Mc){nm}(aU:Mc.h nm=none){r c d}(h:pX L.h r c=some d)
  (hb:∀id∈wG [r] [c],∀C,L.κ id=some C→∀b∈C.fp,¬qN Mc b∧¬Mc.F b∧b<Mc.H.size):
  ∃eO:zK,eO.H=Mc.H∧eO.G=Mc.G∧eO.F=Mc.F∧eO.h=qH Mc.h (so nm r d).2∧Ok eO∧yS Mc eO∧
   (∀b,qN eO b→qN Mc b∨∃id∈wG [r] [c],∃C,L.κ id=some C∧b∈C.fp)∧∀v,zX L c v→zX eO (so nm r d).1 v:=by
 have same : (so nm r d).2 = [] → (∀ v, zX L c v → zX Mc (so nm r d).1 v) → _ := fun e hv => (⟨Mc,rfl,rfl,rfl,by rw[e];rfl,ok,.refl Mc,by grind,hv⟩:
  ∃eO:zK,eO.H=Mc.H∧eO.G=Mc.G∧eO.F=Mc.F∧eO.h=qH Mc.h (so nm r d).2∧Ok eO∧yS Mc eO∧
   (∀b,qN eO b→qN Mc b∨∃id∈wG [r] [c],∃C,L.κ id=some C∧b∈C.fp)∧∀v,zX L c v→zX eO (so nm r d).1 v)
 unfold pX at h;split at h
 ·rename_i k j n;cases e:gv j k with
  |false=>rw[e] at h;cases h
  |true=>
   rw[e] at h;cases h;exact same rfl fun v hv=>by rw[←tD e];exact hv
 ·cases h;exact same rfl fun v hv=>hv
 ·obtain⟨e,hx⟩:=lq h;subst e;subst hx;refine same rfl fun v hv=>?_
  show qF Mc.H Mc.G _ _ _;rw[up.H,up.G];exact hv
 ·cases h;refine same rfl fun v hv=>?_
  rw[show v=.slice none 0 0 from hv];exact J4
 ·rename_i t id;split at h
  ·rename_i s xs an;obtain⟨e,hx⟩:=lq h;subst e;subst hx;obtain⟨C,hC,hO⟩:=iT.obj id _ an;obtain⟨k1,k2,k3⟩:=zK.add_ok ok aU (o:=.arr true s xs) (C:=C) (vI0 (Mc:=Mc.add nm (.arr true s xs) C) ⟨up.H,up.G⟩ hO) (hb id (by simp[wG]) C hC);refine⟨Mc.add nm (.arr true s xs) C,rfl,rfl,rfl,rfl,k1,k2,fun b bg=>(k3 b bg).imp (fun h=>h) fun h=>⟨id,by simp[wG],C,hC,h⟩,fun v hv=>?_⟩;obtain⟨C',aF,hS⟩:=hv;rw[hC] at aF;cases aF;refine⟨C,κset_same _ _ _,?_⟩;show jB Mc.H C 0 C.len v;rw[up.H];exact hS
  ·cases h
 ·rename_i t id n;split at h
  ·rename_i s xs an;obtain⟨e,hx⟩:=lq h;subst e;subst hx;obtain⟨C,hC,hO⟩:=iT.obj id _ an;let C':qC:={C with len:=(xs.take n).length};have tP:yY (Mc.add nm (.arr true s (xs.take n)) C') (.arr true s (xs.take n)) C':=by
    obtain⟨q1,q2,q3,q4⟩:=vI0 (Mc:=Mc.add nm (.arr true s (xs.take n)) C') ⟨up.H,up.G⟩ hO;refine⟨rfl,q2,q3,?_⟩;show match C.blk with
     |none=>_
     |some B=>_
    cases hB:C.blk with
    |none=>rw[hB] at q4;show xs.take n=[];rw[q4];simp
    |some B=>
     rw[hB] at q4;obtain⟨vals,e,r1,r2,r3,r4⟩:=q4;have hle:(xs.take n).length≤xs.length:=by rw[List.length_take];omega
     have:=Nat.mul_le_mul_right s.size hle;refine⟨vals,e,r1,r2,by omega,fun i hi=>?_⟩;rw[List.getElem_take];exact r4 i (by omega)
   obtain⟨k1,k2,k3⟩:=zK.add_ok ok aU (o:=.arr true s (xs.take n)) (C:=C') tP (hb id (by simp[wG]) C hC);refine⟨Mc.add nm (.arr true s (xs.take n)) C',rfl,rfl,rfl,rfl,k1,k2,fun b bg=>(k3 b bg).imp (fun h=>h) fun h=>⟨id,by simp[wG],C,hC,h⟩,fun v hv=>?_⟩;obtain⟨C1,iR,h1,hS,_⟩:=hv;rw[hC] at iR;cases iR;have hl:(xs.take n).length=n:=by rw[List.length_take,←hO.1];omega
   refine⟨C',κset_same _ _ _,?_⟩;show jB Mc.H C' 0 (xs.take n).length v;rw[hl,up.H];exact hS
  ·cases h
 ·rename_i t;cases h;obtain⟨k1,k2,k3⟩:=Mc.nilObj_ok ok aU t false;refine⟨Mc.nilObj nm (kH t false) (l9 t false),rfl,rfl,rfl,rfl,k1,k2,by grind,fun v hv=>?_⟩;rw[show v=.slice none 0 0 from hv];exact⟨_,κset_same _ _ _,none,0,rfl,rfl,rfl,rfl⟩
 ·rename_i id;split at h
  ·rename_i ver xs an;cases h;obtain⟨C,hC,hO⟩:=iT.obj id _ an;obtain⟨k1,k2,k3⟩:=zK.add_ok ok aU (o:=.mat 0 d) (C:={C with ver:=0}) (vZ6 (Mc:=Mc.add nm (.mat 0 d) {C with ver:=0}) ⟨up.H,up.G⟩ hO) (hb id (by simp[wG]) C hC);refine⟨Mc.add nm (.mat 0 d) {C with ver:=0},rfl,rfl,rfl,rfl,k1,k2,fun b bg=>(k3 b bg).imp (fun h=>h) fun h=>⟨id,by simp[wG],C,hC,h⟩,fun v hv=>?_⟩;obtain⟨C',aF,hS⟩:=hv;rw[hC] at aF;cases aF;refine⟨_,κset_same _ _ _,?_⟩;show jB Mc.H C 0 C.len v;rw[up.H];exact hS
  ·rename_i ver xs n an;obtain⟨hc,h⟩:Nat.beq xs.length n=true∧some xs=some d:=by
    cases e:Nat.beq xs.length n with
    |true=>rw[e] at h;exact⟨rfl,h⟩
    |false=>rw[e] at h;cases h
   cases h;obtain⟨C,hC,hO⟩:=iT.obj id _ an;obtain⟨k1,k2,k3⟩:=zK.add_ok ok aU (o:=.mat 0 d) (C:={C with ver:=0}) (vUp (Mc:=Mc.add nm (.mat 0 d) {C with ver:=0}) ⟨up.H,up.G⟩ hO (Nat.eq_of_beq_eq_true hc)) (hb id (by simp[wG]) C hC);refine⟨Mc.add nm (.mat 0 d) {C with ver:=0},rfl,rfl,rfl,rfl,k1,k2,fun b bg=>(k3 b bg).imp (fun h=>h) fun h=>⟨id,by simp[wG],C,hC,h⟩,fun v hv=>?_⟩;obtain⟨C',aF,hS⟩:=hv;rw[hC] at aF;cases aF;refine⟨_,κset_same _ _ _,?_⟩;show jB Mc.H C 0 C.len v;rw[up.H];exact hS
  ·cases h
 ·cases h;obtain⟨k1,k2,k3⟩:=Mc.nilObj_ok ok aU (.int .i64) true;refine⟨Mc.nilObj nm (kH (.int .i64) true) (l9 (.int .i64) true),rfl,rfl,rfl,rfl,k1,k2,by grind,fun v hv=>?_⟩;rw[show v=.slice none 0 0 from hv];exact⟨_,κset_same _ _ _,none,0,rfl,rfl,rfl,rfl⟩
 ·rename_i id;split at h
  ·rename_i xs an;cases h;obtain⟨C,hC,hO⟩:=iT.obj id _ an;obtain⟨k1,k2,k3⟩:=zK.add_ok ok aU (o:=.pmat 0 [] xs.length) (C:={C with ver:=0}) (vUm (Mc:=Mc.add nm (.pmat 0 [] xs.length) {C with ver:=0}) ⟨up.H,up.G⟩ hO) (hb id (by simp[wG]) C hC);refine⟨Mc.add nm (.pmat 0 [] xs.length) {C with ver:=0},rfl,rfl,rfl,rfl,k1,k2,fun b bg=>(k3 b bg).imp (fun h=>h) fun h=>⟨id,by simp[wG],C,hC,h⟩,fun v hv=>?_⟩;obtain⟨C',aF,hS⟩:=hv;rw[hC] at aF;cases aF;refine⟨_,κset_same _ _ _,?_⟩;show jB Mc.H C 0 C.len v;rw[up.H];exact hS
  ·cases h
 ·cases h;obtain⟨k1,k2,k3⟩:=zK.add_ok ok aU (o:=.pmat 0 [] 0) (C:=⟨none,0,1,0,[]⟩) ⟨rfl,rfl,rfl,rfl,by simp[qC.fp],Nat.le_refl _,rfl⟩ (nofun);refine⟨Mc.add nm (.pmat 0 [] 0) ⟨none,0,1,0,[]⟩,rfl,rfl,rfl,rfl,k1,k2,fun b bg=>(k3 b bg).imp (fun h=>h) nofun,fun v hv=>?_⟩;rw[show v=.slice none 0 0 from hv];exact⟨_,κset_same _ _ _,none,0,rfl,rfl,rfl,rfl⟩
 ·rename_i id;split at h
  ·rename_i df an;cases h;obtain⟨C,hC,hO⟩:=iT.obj id _ an;have tP:yY (Mc.add nm (.imap d) C) (.imap d) C:=by
    obtain⟨B,es,ck,h1,h2,h3,h4,h5⟩:=hO;refine⟨B,es,ck,h1,h2,?_,h4,h5⟩;show Mc.H[B]? =_;rw[up.H];exact h3
   obtain⟨k1,k2,k3⟩:=zK.add_ok ok aU (o:=.imap d) (C:=C) tP (hb id (by simp[wG]) C hC);refine⟨Mc.add nm (.imap d) C,rfl,rfl,rfl,rfl,k1,k2,fun b bg=>(k3 b bg).imp (fun h=>h) fun h=>⟨id,by simp[wG],C,hC,h⟩,fun v hv=>?_⟩;obtain⟨C',B,aF,hB,e⟩:=hv;rw[hC] at aF;cases aF;exact⟨C,B,κset_same _ _ _,hB,e⟩
  ·cases h
 ·exact same rfl fun v hv=>hv
 ·exact same rfl fun v hv=>hv.one
 ·exact same rfl fun v hv=>hv
 ·cases h
theorem O4 r c l cs:wG (r::l) (c::cs)=wG [r] [c]++wG l cs:=by
 cases r<;>cases c<;>rfl
theorem yUv {nm r d n}(h:n≠nm) hh:qH hh (so nm r d).2 n=hh n:=by
 cases r<;>first|rfl|exact yV _ _ h
theorem Wv {h}:∀{n nm},xj h nm n=true→∀i,i<n→h (nm+i)=none
 |n+1,nm,e,i,hi=>by
  unfold xj at e;rw[Bool.and_eq_true] at e;cases i with
  |zero=>
   grind
  |succ i=>rw[←Wv e.2 i (by omega)];grind
theorem Ww {L:zK}(iT:Ok L):∀{l:List RC} {cs:List qA} {d:RL l} {nm:Nat} {Mc:zK},Ok Mc→Up L Mc→(∀i,i<l.length→Mc.h (nm+i)=none)→kK L.h l cs=some d→(wG l cs).Nodup→
  (∀id∈wG l cs,∃o,L.h id=some o∧o.owned=true)→
  (∀id∈wG l cs,∀C,L.κ id=some C→∀b∈C.fp,¬qN Mc b∧¬Mc.F b∧b<Mc.H.size)→
  ∃eO:zK,eO.H=Mc.H∧eO.G=Mc.G∧eO.F=Mc.F∧eO.h=qH Mc.h (oW nm l d).2∧Ok eO∧yS Mc eO∧
   (∀b,qN eO b→qN Mc b∨∃id∈wG l cs,∃C,L.κ id=some C∧b∈C.fp)∧∀vs,zN (zX L) cs vs→zN (zX eO) (oW nm l d).1 vs
 |[],[],d,nm,Mc,ok,up,_,_,_,_,_=>⟨Mc,rfl,rfl,rfl,rfl,ok,.refl Mc,fun b h=>.inl h,fun vs h=>by
  cases vs with
  |nil=>trivial
  |cons _ _=>exact h.elim⟩
 |r::l,c::cs,d,nm,Mc,ok,up,hf,h,dM,aN,hb=>by
  unfold kK at h;split at h
  ·rename_i x xs e1 e2;cases h;rw[O4] at dM aN hb;obtain⟨nd1,nd2,nd3⟩:=List.nodup_append.1 dM;obtain⟨M1,a1,a2,a3,a4,a5,a6,a7,a8⟩:=vW5 iT ok up (by have:=hf 0 (by simp);simpa using this) e1 (by grind);have up1:Up L M1:=⟨a1.trans up.H,a2.trans up.G⟩;obtain ⟨M2, b1, b2, b3, b4, b5, b6, b7, b8⟩ := Ww iT (nm := nm + 1) a5 up1 (fun i hi=>by
     rw[a4,yUv (by omega)];have:=hf (i+1) (by simp;omega);grind) e2 nd2 (fun id an => aN id (by grind)) (fun id an C hC b Es=>by
     obtain⟨q1,q2,q3⟩:=hb id (List.mem_append_right _ an) C hC b Es;refine⟨fun ho=>?_,by simp_all,by simp_all⟩;rcases a7 b ho with ho|⟨jd,dh,D,hD,Wx⟩
     ·exact q1 ho
     ·have bx:id≠jd:=by grind
      obtain⟨o1,p1,p2⟩:=aN id (by grind);obtain⟨o2,p3,p4⟩:=aN jd (List.mem_append_left _ dh);exact iT.disj id jd o1 o2 C D b bx p1 p3 p2 p4 hC hD Es Wx)
   refine⟨M2,b1.trans a1,b2.trans a2,b3.trans a3,?_,b5,a6.trans (by simp_all) b6,fun b bg=>?_,fun vs dL=>?_⟩
   ·show M2.h=qH Mc.h ((so nm r x).2++(oW (nm+1) l xs).2);rw[ll,←a4];exact b4
   ·rw[O4];grind
   ·cases vs with
    |nil=>exact dL.elim
    |cons v vs=>exact⟨(a8 v dL.1).ext b6,b8 vs dL.2⟩
  ·cases h
 |[],_::_,_,_,_,_,_,_,h,_,_,_=>by cases h
 |_::_,[],_,_,_,_,_,_,h,_,_,_=>by cases h
theorem wM {α:Type}{c x}{y:α}(h:(bif c then x else none)=some y):c=true∧x=some y:=by
 grind
theorem yH5 {M}:∀{l xs cs vs},Wk l xs=some cs→zN (wy M) xs vs→
  cs.length=(l.flatMap (·.2)).length∧∃us:List Value,zN (zX M) cs us∧∀M' aS,zN (zX M') aS us→zN (wy M') (Wl l aS) vs
 |[],[],cs,[],h,_=>by cases h;exact⟨rfl,[],trivial,fun _ _ _=>trivial⟩
 |(b,l)::ls,(g,mQ)::rest,cs,v::vs,h,hv=>by
  obtain⟨hc,h⟩:=wM h;split at h
  ·rename_i r hr;cases h;rw[Bool.and_eq_true] at hc;have hl:mQ.length=l.length:=by simp_all
   obtain⟨k1,us,k2,k3⟩:=yH5 hr hv.2;refine⟨by simp_all,?_⟩;cases b with
   |true=>
    have hg:g=true:=hc.1;subst hg;obtain⟨ws,rfl,hw⟩:=hv.1;refine⟨ws.toList++us,hw.append k2,fun M' aS h'=>⟨?_,?_⟩⟩
    ·have h1:=zN.take l.length h';have Wy:=hw.length;rw[show(ws.toList++us).take l.length=ws.toList from by simp_all] at h1;exact⟨ws,rfl,h1⟩
    ·have h1:=zN.drop l.length h';have Wy:=hw.length;simp_all
   |false=>
    have hg:=hc.1;simp  at hg;obtain⟨O5,hg2⟩:=hg;subst O5;have tS:mQ.length=1:=by simp_all
    match mQ,tS with
    |[c],_=>
     have nL:zX M c v:=hv.1;refine⟨v::us,⟨nL,k2⟩,fun M' aS h'=>?_⟩
     match aS,h' with
     |c'::Wz,h'=>
      have e:l.length=1:=by omega
      refine⟨?_,?_⟩
      ·rw[e];exact h'.1
      ·rw[e];exact k3 M' Wz h'.2
  ·cases h
 |[],[],_,_::_,_,hv=>hv.elim
theorem yUb {M}{s:RS}{v cs rv}(h:s.get v=some cs)(hv:zV M v rv):
  cs.length=s.cells.length∧∃us:List Value,zN (zX M) cs us∧∀M' aS,zN (zX M') aS us→zV M' (s.mk aS) rv:=by
 unfold RS.get at h;split at h
 ·cases h;refine⟨rfl,[rv],⟨hv,trivial⟩,fun M' aS h'=>?_⟩
  match aS,h' with
  |[c'],h'=>exact h'.1
 ·obtain⟨hl,h⟩:=wM h;cases h;obtain⟨vs,rfl,hx⟩:=hv;exact⟨Nat.eq_of_beq_eq_true hl,vs.toList,hx,fun M' aS h'=>⟨vs,rfl,h'⟩⟩
 ·obtain⟨vs,rfl,hx⟩:=hv;obtain⟨k1,us,k2,k3⟩:=yH5 h hx;exact⟨k1,us,k2,fun M' aS h'=>⟨vs,rfl,by grind⟩⟩
 ·cases h
theorem WA {h0 s a a' v u M}(ok:Ok M)(hf:jD h0 M.h)(hv:zV M a v)(h:xk h0 s a=some (a',u)):
  ∃L:zK,L.H=M.H∧L.h=qH M.h u∧Ok L∧yO M L∧zV L a' v∧jD h0 L.h:=by
 unfold xk at h;split at h
 ·rename_i p x;split at h
  ·rename_i y u1 e;cases h;obtain⟨L,h1,h2,h3,h4,h5,h6⟩:=xm (cs:=[x]) (vs:=[v]) ok hf ⟨hv,trivial⟩ e;exact⟨L,h1,h2,h3,h4,h5.1,h6⟩
  ·cases h
 ·split at h
  ·rename_i ys u1 e;cases h;obtain⟨vs,rfl,hx⟩:=hv;obtain⟨L,h1,h2,h3,h4,h5,h6⟩:=xm ok hf hx e;exact⟨L,h1,h2,h3,h4,⟨vs,rfl,h5⟩,h6⟩
  ·cases h
 ·cases h;exact⟨M,rfl,rfl,ok,.refl M,hv,hf⟩
theorem xn.ext {M M'}(x:yS M M'):∀{as vs},zN (zV M) as vs→zN (zV M') as vs:=fun h=>h.mono fun _ _ h=>h.ext x
theorem yF4 {h0}:∀{l as fi vs u M},Ok M→jD h0 M.h→zN (zV M) as vs→sr h0 l as=some (fi,u)→
  ∃L:zK,L.H=M.H∧L.h=qH M.h u∧Ok L∧yO M L∧zN (zV L) fi vs∧jD h0 L.h
 |s::l,a::as,fi,v::vs,u,M,ok,hf,hv,h=>by
  unfold sr at h;split at h
  ·rename_i a1 u1 WB rU e1 e2;cases h;obtain⟨M1,h1,h2,h3,h4,h5,h6⟩:=WA ok hf hv.1 e1;obtain⟨M2,k1,k2,k3,k4,k5,k6⟩:=yF4 h3 h6 (xn.ext h4.ext hv.2) e2;exact⟨M2,k1.trans h1,by rw[k2,h2,ll],k3,h4.trans k4,⟨h5.ext k4.ext,k5⟩,k6⟩
  ·cases h
 |[],as,fi,vs,u,M,ok,hf,hv,h=>by
  cases as<;>cases h<;>exact⟨M,rfl,rfl,ok,.refl M,hv,hf⟩
 |s::l,[],fi,vs,u,M,ok,hf,hv,h=>by cases h;exact⟨M,rfl,rfl,ok,.refl M,hv,hf⟩
def zK.over (M L:zK):zK:={κ:=M.κ,F:=fun b=>M.F b∨L.G b,G:=L.G,h:=M.h,H:=L.H}
theorem zK.over_ok {M Ml L}(ok:Ok M)(iT:Ok L)(lo:Lo M Ml)(J5:∀b,¬qN Ml b)(g:ka Ml L):Ok (M.over L)∧yO M (M.over L):=by
 have bd:∀b,Ml.F b↔b<M.H.size:=fun b=>by rw[lo.F]
 have cU:∀b,b<M.H.size→L.H[b]? =M.H[b]? :=fun b hb=>by rw[g.same b (by grind),lo.H]
 have dK:M.H.size≤L.H.size:=by grind
 have hG:∀b,L.G b→b<M.H.size→M.G b:=fun b hb hs=>by
  rcases g.Gb b hb (by rw[lo.H];exact hs) with h|h
  ·rw[lo.G] at h;exact h
  simp_all
 have kB:∀b,M.F b→b<M.H.size:=ok.Flt;have x:yS M (M.over L):=⟨fun id C h=>⟨C,h,C.le_refl⟩,fun b h=>.inl h,fun b h=>g.G b (by rw[lo.G];exact h),fun b h=>cU b (by grind),fun b h=>cU b (ok.Flt b (ok.GF b h)),fun b h=>DS (cU b h)⟩;have aN:∀b,qN (M.over L) b→qN M b:=fun b h=>h
 refine⟨⟨fun id o h=>?_,fun id h=>ok.non id h,ok.disj,fun b h=>⟨fun hf=>?_,?_⟩,fun b h=>.inr h,fun b h=>?_⟩,⟨x,dK,fun b hb _=>cU b hb,by grind,fun b h hs=>.inl (hG b h hs),fun b h hs=>?_⟩⟩
 ·obtain⟨C,hC,hO⟩:=ok.obj id o h;exact⟨C,hC,hO.ext x fun ho b hb=>cU b (ok.own b ⟨id,o,C,h,ho,hC,hb⟩).2⟩
 ·have:=ok.own b (aN b h);rcases hf with hf|hf
  ·simp_all
  ·exact this.1 (ok.GF b (by grind))
 ·have h1:=(ok.own b (aN b h)).2;show b<L.H.size;omega
 ·show b<L.H.size;rcases h with h|h
  ·grind
  ·exact iT.Flt b (iT.GF b h)
 ·rcases h with h|h
  ·simp_all
  ·exact .inl (ok.GF b (hG b h hs))
theorem vNc {h0 r c d}(h:pX h0 r c=some d):∀id∈wG [r] [c],∃o,h0 id=some o∧o.owned=true:=by
 unfold pX at h;split at h;all_goals (try (intro id an;simp[wG] at an;done))
 ·intro El an;have:=List.mem_singleton.1 an;subst this;split at h
  ·exact⟨_,by assumption,rfl⟩
  ·cases h
 ·intro El an;have:=List.mem_singleton.1 an;subst this;split at h
  ·exact⟨_,by omega,rfl⟩
  ·cases h
 ·rename_i id;intro El an;have:=List.mem_singleton.1 an;subst this;split at h
  ·exact⟨_,by assumption,rfl⟩
  ·exact⟨_,by omega,rfl⟩
  ·cases h
 ·intro El an;have:=List.mem_singleton.1 an;subst this;split at h
  ·exact⟨_,by assumption,rfl⟩
  ·cases h
 ·intro El an;have:=List.mem_singleton.1 an;subst this;split at h
  ·exact⟨_,by assumption,rfl⟩
  ·cases h
 ·cases h
theorem xo {L:zK}:∀{l cs d},kK L.h l cs=some d→∀id∈wG l cs,∃o,L.h id=some o∧o.owned=true
 |r::l,c::cs,d,h,id,an=>by
  unfold kK at h;split at h
  ·rename_i x xs e1 e2;rw[O4] at an;rcases List.mem_append.1 an with an|an
   ·exact vNc e1 id an
   ·exact xo e2 id an
  ·cases h
theorem yRu {E}(hE:gA E)(hS:j9 E.sums)(hm:E.P.follows .mixedOrders=true){A k pre na f fn}(hf:E.P.funcs[f]? =some fn)(hL:∀c,fn.body=some c→wK E.P A pre na fn.ntmps c)(cd:∀vs w,(callFunc f vs).run E.P w=.ok (.enter f vs) w)
  {as rs X S pack} {unpack:RL rs.cells→X} (fE:∀d,pack (unpack d)=d) (aV:∀d x,S d=some x→∀Ml vs,zN (zV Ml) (pW as d).1 vs→∃eP,zN (zV Ml) eP vs∧kA E A k pre na fn eP (pW as d).2 (mT rs unpack)=some x)
  {nm args h v u} (hy:yM (oX as rs S pack nm args h) v u):tZ E.P f args h v u:=by
 intro M w vs hh hH ok hv;refine .inl ⟨cd vs w,?_⟩;unfold oX at hy;split at hy
 ·exact hy.elim
 rename_i eP u0 Bt;split at hy
 case h_2=>exact hy.elim
 rename_i d hd;obtain⟨hc,hy⟩:=Bc hy;rw[Bool.and_eq_true] at hc;obtain⟨x,hx,rfl,rfl⟩:=hy;subst hh;obtain⟨M1,a1,a2,a3,a4,a5,a6⟩:=yF4 ok (jD.refl _) hv Bt;rw[←a2] at hd;obtain⟨Ml,lo,b2,b3,b4,b5⟩:=vVe a3 a5 hd;obtain⟨agL,Bu,WC⟩:=aV d x hx Ml _ b5;refine Calls.mono (Wi hE hS hm hf hL WC b2 (by rw[lo.H,a1];exact hH) b3 Bu) fun e w' he=>?_
 cases e with
 |panicked _=>omega
 |outgrown=>omega
 |returned rv=>
  obtain⟨L0,v0,st,hK,c1,c2,c3,c4,_,c5,c6,c7,c8,_⟩:=he;have hK:J3 st.h rs v0=some (pack x):=by
   unfold mT at hK;grind
  unfold J3 at hK;split at hK
  case h_2=>cases hK
  rename_i cs nP;split at hK
  case h_2=>cases hK
  rename_i aS u1 ui;obtain⟨dM,hK⟩:=wM hK;obtain⟨hlen,us,d1,d2⟩:=yUb nP c5;rw[←c1] at ui hK;obtain⟨L,e1,e2,e3,e4,e5,e6⟩:=xm c3 (jD.refl _) d1 ui;rw[←e2] at hK;have g:ka Ml L:=c4.trans e4.grow;obtain⟨f1,f2⟩:=zK.over_ok a3 e3 lo b4 g;have pY:∀i,i<rs.cells.length→(M1.over L).h (nm+i)=none:=fun i hi=>by
   have h1:=Wv hc.1 i hi;show M1.h (nm+i)=none;rcases a6 (nm+i) with h|⟨own,t,xs,h,_⟩|⟨ver,xs,h,_⟩
   all_goals simp_all
  obtain ⟨Mc, g1, g2, g3, g4, g5, g6, g7, g8⟩ := Ww e3 f1 ⟨rfl, rfl⟩ pY hK (Ee dM) (xo hK) (fun id an C hC b hb=>by
   obtain⟨o,ho,iS⟩:=xo hK id an;have aN:qN L b:=⟨id,o,C,ho,iS,hC,hb⟩;have oO:¬b<M1.H.size:=fun bd=>b4 b (g.own b aN (by rw[lo.H];omega))
   refine⟨fun h=>oO (a3.own b h).2,fun h=>?_,(e3.own b aN).2⟩;rcases h with h|h
   ·exact oO (a3.Flt b h)
   ·exact(e3.own b aN).1 (e3.GF b h))
  have xp:yO M1 Mc:=by
   have aN:∀b,qN Mc b→b<M1.H.size→qN M1 b:=fun b hb bd=>by
    rcases g7 b hb with h|⟨id,an,C,hC,Es⟩
    ·exact h
    ·obtain⟨o,ho,iS⟩:=xo hK id an;exact absurd (g.own b ⟨id,o,C,ho,iS,hC,Es⟩ (by rw[lo.H];omega)) (b4 b)
   refine⟨f2.ext.trans f2.size g6,?_,fun b hb hn=>?_,aN,fun b hb bd=>?_,fun b hb bd=>?_⟩
   ·rw[g1];exact f2.size
   ·rw[g1];exact f2.frame b hb hn
   ·rw[g2] at hb;exact f2.Gb b hb bd
   ·rw[g3] at hb;exact f2.Fb b hb bd
  refine⟨Mc,⟨c6,c7,c8,?_,?_,g5,a4.trans xp⟩,?_⟩
  ·rw[g1];show L.H=_;rw[e1,c2]
  ·rw[ll,←a2];exact g4
  ·exact d2 Mc _ (g8 us e5)
theorem vPt {E}(hE:gA E)(hS:j9 E.sums)(hm:E.P.follows .mixedOrders=true){A k pre na f fn}(hf:E.P.funcs[f]? =some fn)(hL:∀c,fn.body=some c→wK E.P A pre na fn.ntmps c)(cd:∀vs w,(callFunc f vs).run E.P w=.ok (.enter f vs) w)
  {as rs X S} {pack:X→RL rs.cells} {unpack} (fE:∀d,pack (unpack d)=d) (aV:∀d,kA E A k pre na fn (pW as d).1 (pW as d).2 (mT rs unpack)=S d)
  {nm args h v u} (hy:yM (oX as rs S pack nm args h) v u):tZ E.P f args h v u:=
 yRu hE hS hm hf hL cd fE (fun d x hx _ _ hv=>⟨_,hv,(aV d).trans hx⟩) hy
theorem WD {E}(hE:gA E)(hS:j9 E.sums)(hm:E.P.follows .mixedOrders=true){A k pre na f fn}(hf:E.P.funcs[f]? =some fn)(hL:∀c,fn.body=some c→wK E.P A pre na fn.ntmps c)(cd:∀vs w,(callFunc f vs).run E.P w=.ok (.enter f vs) w)
  {sh t rs X} {S:List t.den→Option X} {pack unpack} (fE:∀d,pack (unpack d)=d) (cO:∀x,S []=some x→kA E A k pre na fn [.c .nsl] (mb []) (mT rs unpack)=some x)
  (aV:∀xs x,S xs=some x→kA E A k pre na fn [.c (.nfl sh t xs)] (mb []) (mT rs unpack)=some x)
  {nm args h v u} (hy:yM (oX [.c (.dat sh t)] rs (fun d=>S d.1) pack nm args h) v u):tZ E.P f args h v u:=
 yRu hE hS hm hf hL cd fE (fun d x hx Ml vs hv=>by
  obtain⟨xs,_⟩:=d
  match vs,hv with
  |[v],hv=>
   have nL:qF Ml.H (bif sh then Ml.G else Ml.F) (.sl t) xs (fun _=>some v):=hv.1;have pQ:=nL;simp[qF] at nL;obtain⟨A',n,c,rfl,hn,hc,h⟩:=nL;cases A' with
   |some a=>exact⟨[.c (.nfl sh t xs)],⟨⟨by simp,pQ⟩,trivial⟩,aV xs x hx⟩
   |none=>
    rcases h with⟨rfl,h0⟩|⟨B,o,e,_⟩
    ·have h0:=h0 rfl;subst h0;subst hn;exact⟨[.c .nsl],⟨rfl,trivial⟩,cO x hx⟩
    ·cases e) hy
def yU.orElse:yU→yU→yU
 |.alts [],b=>b
 |a,_=>a
abbrev nQ:=Nat→Nat→List zW→Hp→yU
def fj:List (Nat×nQ)→N5
 |[],_,_,_,_,_=>.stuck
 |(g,e)::l,k,nm,f,args,h=>bif Nat.beq g f then(e k nm args h).orElse (fj l k nm f args h) else fj l k nm f args h
def yL8 (P:Program)(r:Nat×nQ):Prop:=∀k nm args h v u,yM (r.2 k nm args h) v u→tZ P r.1 args h v u
def J6 (e:nQ):Prop:=∀k nm (args:List zW) h h',(args.any wO=false→∀id,(id∈args.flatMap yT∨nG nm id=true)→h id=h' id)→(args.any wO=true→h=h')→e k nm args h=e k nm args h'
theorem WE {a b v u}(h:yM (a.orElse b) v u):yM a v u∨yM b v u:=by
 unfold yU.orElse at h;grind
theorem yYn {P}:∀{l},(∀r∈l,yL8 P r)→yZl P (fj l)
 |[],_=>nofun
 |(g,e)::l,hl=>fun k nm f args h v u hy=>by
  have ih:=yYn (l:=l) fun r hr=>hl r (by grind)
  unfold fj at hy;cases hg:Nat.beq g f with
  |false=>rw[hg] at hy;exact ih k nm f args h v u hy
  |true=>
   rw[hg] at hy;have:g=f:=by simp_all
   subst this;rcases WE hy with hy|hy
   ·exact hl (g,e) (by simp) k nm args h v u hy
   ·exact ih k nm g args h v u hy
theorem yHo:∀{l},(∀r∈l,J6 r.2)→j9 (fj l)
 |[],_=>fun k nm f args h h' _ _=>rfl
 |(g,e)::l,hl=>fun k nm f args h h' h1 h2=>by
  have ih:=yHo (l:=l) (by grind) k nm f args h h' h1 h2;unfold fj;have he:e k nm args h=e k nm args h':=hl (g,e) (by simp) k nm args h h' h1 h2;rw[ih,he]
section
variable {h h':Hp}
theorem vWs {t c}(hh:∀id∈vL c,h id=h' id):Bp h t c=Bp h' t c:=by
 have e:=OT hh;unfold Bp;grind
theorem vHq {p c}(hh:∀id∈vL c,h id=h' id):ug h p c=ug h' p c:=by
 have e:=fun t=>vWs (t:=t) hh
 unfold ug;grind
theorem yVd:∀{l cs},(∀id∈cs.flatMap vL,h id=h' id)→Bq h l cs=Bq h' l cs
 |[],[],_
 |[],_::_,_
 |_::_,[],_=>rfl
 |p::l,c::cs,hh=>by
  simp  at hh;unfold Bq;rw[vHq fun id hi=>hh id (.inl hi),yVd (by grind)]
theorem vWp {ls}:uh h ls []=uh h' ls []:=by
 cases ls<;>rfl
theorem WG {s:AS}{a}(hb:wO a=false):s.get h a=s.get h' a:=by
 unfold AS.get;cases s with
 |c p=>grind
 |agg l=>grind
 |ptr l=>
  cases a with
  |c x=>cases x<;>first|rfl|(exact absurd hb (by nofun))
  |_=>rfl
 |fn f bA=>
  cases a with
  |c x=>cases x with
   |fn g ids=>
    cases ids with
    |nil=>dsimp only;rw[vWp]
    |cons _ _=>exact absurd hb (by nofun)
   |_=>rfl
  |_=>rfl
theorem WH {s:AS}{a cs}(hb:wO a=false)(e:s.get h a=some cs):∀id∈cs.flatMap vL,id∈yT a:=by
 unfold AS.get at e;split at e
 ·cases e;intro id an;simp  at an;exact an
 ·obtain⟨_,e⟩:=wM e;cases e;exact fun id an=>an
 ·exact absurd hb (by nofun)
 ·rename_i f bA g ids;obtain⟨_,e⟩:=wM e;cases ids with
  |nil=>cases bA with
   |nil=>cases e;simp
   |cons _ _=>cases e
  |cons _ _=>exact absurd hb (by nofun)
 ·cases e
theorem yJq:∀{l as},as.any wO=false→sn h l as=sn h' l as
 |[],[],_
 |[],_::_,_
 |_::_,[],_=>rfl
 |s::l,a::as,hb=>by
  simp only[List.any_cons,Bool.or_eq_false_iff] at hb;unfold sn;rw[WG (h:=h) (h':=h') hb.1,yJq hb.2]
theorem vBi:∀{l as cs},as.any wO=false→sn h l as=some cs→∀id∈cs.flatMap vL,id∈as.flatMap yT
 |[],[],cs,_,e=>by cases e;simp
 |s::l,a::as,cs,hb,e=>by
  simp only[List.any_cons,Bool.or_eq_false_iff] at hb;unfold sn at e;split at e
  ·rename_i c1 rest e1 e2;cases e;intro id an;rw[List.flatMap_append,List.mem_append] at an;rw[List.flatMap_cons,List.mem_append];rcases an with an|an
   ·exact .inl (WH hb.1 e1 id an)
   ·exact .inr (vBi hb.2 e2 id an)
  ·cases e
theorem vW4 {l as}(hb:as.any wO=false)(hh:∀id∈as.flatMap yT,h id=h' id):Br h l as=Br h' l as:=by
 unfold Br;rw[yJq (h:=h) (h':=h') hb];cases e:sn h' l as with
 |none=>rfl
 |some cs=>exact yVd fun id an=>hh id (vBi hb e id an)
theorem Et {x}:[x].flatMap vL=yT (.c x):=by simp[yT]
theorem WI {c c' u}(e:oM h c=some (c',u)):(∀id∈vL c',id∈vL c)∧(wO (.c c')=true→wO (.c c)=true):=by
 cases c with
 |osl id r=>
  unfold oM at e;dsimp only at e;split at e
  ·cases e;exact⟨nofun,nofun⟩
  ·cases r with
   |none=>cases e;exact⟨nofun,nofun⟩
   |some _=>cases e
  ·cases e
 |mrow _ _ _=>cases e
 |_=>cases e;simp
theorem Eu:∀{l cs},(∀id∈cs.flatMap vL,h id=h' id)→gD h l cs=gD h' l cs
 |[],cs,_=>by rfl
 |true::l,[],_
 |false::l,[],_=>rfl
 |true::l,c::cs,hh=>by
  simp  at hh;unfold gD;rw[yJf fun id hi=>hh id (.inl hi),Eu (by grind)]
 |false::l,c::cs,hh=>by
  unfold gD;rw[Eu (by grind)]
theorem Ev:∀{l cs aS u},gD h l cs=some (aS,u)→∀id∈aS.flatMap vL,id∈cs.flatMap vL
 |[],cs,aS,u,e=>by cases cs<;>cases e<;>exact by simp
 |true::l,[],aS,u,e
 |false::l,[],aS,u,e=>by cases e;simp
 |true::l,c::cs,aS,u,e=>by
  unfold gD at e;split at e
  ·rename_i c1 u1 mQ rU e1 e2;cases e;intro id an;rw[List.flatMap_cons,List.mem_append] at an⊢;exact an.imp ((WI e1).1 id) (Ev e2 id)
  ·cases e
 |false::l,c::cs,aS,u,e=>by
  unfold gD at e;split at e
  ·rename_i mQ rU e2;cases e;intro id an;rw[List.flatMap_cons,List.mem_append] at an⊢;exact an.imp (by simp) (Ev e2 id)
  ·cases e
theorem WJ {s a}(hh:∀id∈yT a,h id=h' id):xk h s a=xk h' s a:=by
 unfold xk;cases s with
 |c p=>cases a with
  |c x=>
   have:=Eu (h:=h) (h':=h') (l:=[p.isKept]) (cs:=[x]) (by rw[Et];exact hh);simp_all
  |_=>rfl
 |agg l=>cases a with
  |agg xs=>
   have:=Eu (h:=h) (h':=h') (l:=l.map PC.isKept) (cs:=xs) hh;simp_all
  |_=>rfl
 |_=>rfl
theorem vQz {s a a' u}(e:xk h s a=some (a',u)):(∀id∈yT a',id∈yT a)∧(wO a=false→wO a'=false):=by
 unfold xk at e;split at e
 ·rename_i p x;split at e
  ·rename_i y u1 e1;cases e;refine⟨fun id an=>by have:=Ev e1 id (by rw[Et];omega);rwa [Et] at this,fun hb=>?_⟩;cases hk:p.isKept with
   |false=>rw[hk] at e1;cases e1;exact hb
   |true=>
    rw[hk] at e1;unfold gD at e1;split at e1
    ·rename_i c1 u2 mQ rU e2 e3;cases e1;cases hy:wO (.c y) with
     |false=>rfl
     |true=>rw[(WI e2).2 hy] at hb;cases hb
    ·cases e1
  ·cases e
 ·split at e
  ·rename_i ys u1 e1;cases e;exact⟨Ev e1,fun _=>rfl⟩
  ·cases e
 simp_all
theorem vH1:∀{l as},(∀id∈as.flatMap yT,h id=h' id)→sr h l as=sr h' l as
 |[],as,_=>by rfl
 |_::_,[],_=>rfl
 |s::l,a::as,hh=>by
  simp  at hh;unfold sr;rw[WJ fun id hi=>hh id (.inl hi),vH1 (by grind)]
theorem yKr:∀{l as fi u},sr h l as=some (fi,u)→(∀id∈fi.flatMap yT,id∈as.flatMap yT)∧(as.any wO=false→fi.any wO=false)
 |[],as,fi,u,e=>by cases as<;>cases e<;>exact by simp
 |s::l,[],fi,u,e=>by cases e;simp
 |s::l,a::as,fi,u,e=>by
  unfold sr at e;split at e
  ·rename_i a1 u1 WB rU e1 e2;obtain⟨k1,k2⟩:=vQz e1;obtain⟨k3,k4⟩:=yKr e2;grind
  ·cases e
theorem WK:∀{n nm},(∀i,i<n→h (nm+i)=h' (nm+i))→xj h nm n=xj h' nm n
 |0,_,_=>rfl
 |n+1,nm,hh=>by
  unfold xj;have:=hh 0 (by omega);rw[Nat.add_zero] at this;rw[this,WK (by grind)]
end
theorem yMl {as rs X}{S:Nat→AD as→Option X}{pack}:J6 fun k nm args h=>oX as rs (S k) pack nm args h:=by
 intro k nm args h h' h1 h2;cases hb:args.any wO with
 |true=>rw[h2 hb]
 |false=>
  have hh:=h1 hb;show oX as rs (S k) pack nm args h=oX as rs (S k) pack nm args h';unfold oX;rw[vH1 (h:=h) (h':=h') (by grind)];cases e:sr h' as args with
  |none=>rfl
  |some p=>
   obtain⟨eP,u⟩:=p;obtain⟨k1,k2⟩:=yKr e;dsimp only;rw[vW4 (h:=qH h u) (h':=qH h' u) (k2 hb) fun id an=>Bj (by grind)];cases Br (qH h' u) as eP with
   |none=>rfl
   |some d=>
    cases hle:Nat.ble rs.cells.length 100 with
    |false=>simp
    |true=>
     have hle:=Nat.le_of_ble_eq_true hle;rw [WK (h := h) (h' := h') fun i hi => hh _ (.inr (by
      simp only[nG,Bool.and_eq_true];exact⟨by simp,by simp[Nat.blt_eq];omega⟩))]
def nR:Code→List Code
 |.seq a b=>nR a++nR b
 |.cond _ a b=>nR a++nR b
 |.block _ b=>nR b
 |.loop b=>[b]
 |_=>[]
def zQ (c:Code)(i:Nat):Code:=match(nR c)[i]? with
 |some b=>b
 |none=>.skip
def zR (fn:Func):Code:=match fn.body with
 |some c=>c
 |none=>.skip
def vIc (P:Program)(A:zU)(pre na nt:Nat)(b:Code):Prop:=(∃L,wv A b=some L∧zS P pre na nt b L)∨(wv A b=none∧wK P A pre na nt b)
theorem WL {P A pre na nt}:∀c,(∀b∈nR c,vIc P A pre na nt b)→wK P A pre na nt c:=by
 intro c
 induction c with
 |seq a b Eb Ec=>exact fun h=>⟨Eb fun x hx=>h x (List.mem_append_left _ hx),Ec fun x hx=>h x (List.mem_append_right _ hx)⟩
 |cond t a b Eb Ec=>exact fun h=>⟨Eb fun x hx=>h x (List.mem_append_left _ hx),Ec fun x hx=>h x (List.mem_append_right _ hx)⟩
 |block id b ih=>exact fun h=>ih h
 |loop b ih=>
  intro h;rcases h b (List.mem_cons_self ..) with⟨L,h1,h2⟩|⟨h1,h2⟩
  ·refine⟨by grind,by grind⟩
  ·refine⟨fun L' h3=>?_,fun _=>h2⟩;simp_all
 |_=>exact fun _=>trivial
theorem J7 {P A pre na nt c n}(hn:(nR c).length=n)(h:∀i,i<n→vIc P A pre na nt (zQ c i)):wK P A pre na nt c:=
 WL c fun b hb=>by
  obtain⟨i,hi,rfl⟩:=List.getElem_of_mem hb;have e:zQ c i=(nR c)[i]:=by
   unfold zQ;grind
  grind
theorem mc {P A pre na nt c n}(hn:(nR c).length=n)(h:∀i,i<n→∃L,wv A (zQ c i)=some L∧zS P pre na nt (zQ c i) L):wK P A pre na nt c:=
 J7 hn fun i hi=>.inl (h i hi)
theorem vVi {P A pre na nt c}(hn:(nR c).length=0):wK P A pre na nt c:=mc hn (by simp)
theorem body_loops {P A pre na fn}(h:wK P A pre na fn.ntmps (zR fn)):∀c,fn.body=some c→wK P A pre na fn.ntmps c:=fun c hc=>by
 unfold zR at h;simp_all
theorem J8 {P f fn}(hf:P.funcs[f]? =some fn)(hb:fn.body.isNone=false)(hn:(fn.name== "runtime.NumGoroutine")=false):∀vs w,(callFunc f vs).run P w=.ok (.enter f vs) w:=fun vs w=>by
 have h1:(program).run P w=.ok P w:=rfl;unfold callFunc;simp only[Sem.run_bind,h1,Result.andThen_ok,hf,hn,hb,Bool.false_eq_true,if_false,Sem.run_pure]
abbrev zA (x:Int):Int:=IntKind.wrap .i64 x
abbrev yP (k:IntKind)(x y:Int):Int:=tG (fun _ a b=>a&&&b) k x y
abbrev wR (k:IntKind)(x y:Int):Int:=tG (fun _ a b=>a|||b) k x y
abbrev shl (k:IntKind)(x y:Int):Int:=k.wrap (x*2^(min y.toNat k.bits))
abbrev shr (k:IntKind)(x y:Int):Int:=x.fdiv (2^(min y.toNat k.bits))
abbrev zM (n b:Nat):Bool:=Nat.ble (n*b) 140737488355328&&Nat.ble n 140737488355328
abbrev oZ (l c:Int)(b:Nat):Bool:=decide (0≤l)&&decide (l≤c)&&decide (c*(b:Int)≤140737488355328)&&decide (c≤140737488355328)
abbrev yC (lt:Bool)(x y:Int):Int:=bif lt then(bif decide (y<x) then y else x) else(bif decide (y>x) then y else x)
abbrev WM (xs:List (List Int))(n:Nat):Option (List (List Int)):=
 mT (.c .mat) (fun d=>d.1) (.c (.osl 0 none)) ⟨fun _=>.undef,fun _=>some (.pmat 0 xs n)⟩
theorem WN xs n:WM xs n=bif Nat.beq xs.length n then some xs else none:=by
 unfold WM mT J3 RS.get RS.cells;dsimp only[List.map,RC.isFro,gD,wG,tH,qH];cases h:Nat.beq xs.length n<;>simp[kK,pX,h]
theorem O6 {l:List Nat}{p:Nat→Bool}(hl:∀t∈l,p t=true)(t:Nat)(h:l.any (Nat.beq t)=true):p t=true:=by
 simp_all
theorem WO {P}:Jw P (fun _=>false):=nofun
open Go.ChangeShapes Go.WideShapes Go.ChangeAt Go.RowKit
def J9 (f:TypeId→Option Ty):Nat→List (Nat×TypeId)→Option Ty
 |_,[]=>none
 |off,[x]=>bif Nat.beq x.1 off then f x.2 else none
 | off, x :: y :: l => bif Nat.beq x.1 off then (match f x.2 with
  |some a=>(match J9 f (off+a.size) (y::l) with|some b=>some (.pair a b)|none=>none)
  |none=>none) else none
def ss (P:Program):TypeDesc→List (Nat×TypeId)
 |.struct fs=>fs.toList.map fun f=>(f.offset,f.type)
 |.array n e=>(List.range n).map fun i=>(i*P.cellsOf e,e)
 |_=>[]
def o6 (P:Program):Nat→TypeId→Option Ty
 |0,_=>none
 |d+1,t=>match P.underlying t with
  |some (.int k)=>bif Nat.beq (P.cellsOf t) 1 then some (.int k) else none
  |some .bool=>bif Nat.beq (P.cellsOf t) 1 then some .bool else none
  |some (.slice e)=>bif Nat.beq (P.cellsOf t) 1&&Nat.ble 1 (P.bytesOf e) then(match o6 P d e with|some a=>some (.sl a)|none=>none) else none
  |some x=>match J9 (o6 P d) 0 (ss P x) with
   |some a=>bif Nat.beq (P.cellsOf t) a.size then some a else none
   |none=>none
  |none=>none
def Wf:(t:Ty)→t.den→Prop
 |.int k,n=>(Lit.int k n).wf=true
 |.bool,_=>True
 |.sl t,xs=>xs.length≤reachBytes∧∀i (h:i<xs.length),Wf t xs[i]
 |.pair a b,p=>Wf a p.1∧Wf b p.2
theorem WQ {P}:∀{d t ty},o6 P d t=some ty→P.cellsOf t=ty.size
 |d+1,t,ty,h=>by
  unfold o6 at h;split at h
  ·obtain⟨h1,h2⟩:=wM h;cases h2;exact Nat.eq_of_beq_eq_true h1
  ·obtain⟨h1,h2⟩:=wM h;cases h2;exact Nat.eq_of_beq_eq_true h1
  ·obtain⟨h1,h2⟩:=wM h;rw[Bool.and_eq_true] at h1;split at h2
   ·cases h2;exact Nat.eq_of_beq_eq_true h1.1
   ·cases h2
  ·split at h
   ·obtain⟨h1,h2⟩:=wM h;simp_all
   ·cases h
  ·cases h
section
variable {H:Type} {enc:TypeId×Value→H} {P:Program} {w:World}
abbrev Ka (w:World):Nat→Prop:=fun b=>b<w.heap.size
theorem vTc {a n cs}(h:w.cells? 0 a n=some cs):cs.length=n∧∀i,i<n→∃v,cs[i]? =some v∧w.cell? (a.add i)=some v:=by
 have hl:=mapM_some_length h;have hg:=mapM_some_get h;simp at hl;refine⟨hl,fun i hi=>?_⟩;have:=hg i i (by simp[hi]);simp_all
theorem yVa {a v}(h:w.cell? a=some v):a.spot=none∧a.block<w.heap.size∧yW w.heap a.block a.off=some v:=by
 unfold World.cell? at h;cases hb:w.heap[a.block]? with
 |none=>simp_all
 |some o=>
  rw[hb] at h;cases o with
  |cells c e z=>
   dsimp only at h;split at h
   ·cases h
   ·refine⟨by simp_all,?_,?_⟩
    ·grind
    ·unfold yW;simp_all
  |_=>cases h
theorem yIm {α:Type}{p:Nat→α→Prop}:∀n,(∀i,i<n→∃x,p i x)→∃xs:List α,xs.length=n∧∀i h,p i xs[i]
 |0,_=>by simp
 |n+1,h=>by
  obtain⟨xs,h1,h2⟩:=yIm n fun i hi=>h i (by omega)
  obtain⟨x,hx⟩:=h n (by omega);refine⟨xs++[x],by simp[h1],fun i hi=>?_⟩;grind
def jA (l:List Nat):Prop:=l.all (· ≤reachBytes)=true
theorem pZ {l m}:jA (l++m)↔jA l∧jA m:=by simp[jA]
theorem yWb {P e}{d:DataW H}:∀{l},jA (DataW.weightsAll P e l)→d∈l→jA (d.weights P e)
 |a::l,h,hd=>by
  have h:=pZ.1 h;rcases List.mem_cons.1 hd with rfl|hd
  ·exact h.1
  ·exact yWb h.2 hd
theorem yJ3 {P e}:∀{ts} {ds:List (DataW H)},(∀t∈ts,t=e)→jA (DataW.weightsAll P e ds)→jA (DataW.weightsEach P ts ds)
 |t::ts,d::ds,ht,h=>by
  have h:=pZ.1 h;rw[ht t (by simp)];exact pZ.2 ⟨h.1,yJ3 (by grind) h.2⟩
 |[],_,_,_=>by simp[DataW.weightsEach,jA]
 |_::_,[],_,_=>by rfl
def O7 (P:Program)(w:World)(ty:Ty)(cs:List Value):Prop:=∃x:ty.den,cs.length=ty.size∧qF w.heap (Ka w) ty x (fun j=>cs[j]?)∧Wf ty x
theorem yLu {d fuel}(ih:∀t ty cs x,o6 P d t=some ty→DataW.trod enc P w 0 (fun _=>true) true fuel t cs=some x→jA (x.1.weights P t)→O7 P w ty cs):
  ∀l off ty (cs:List Value) out,J9 (o6 P d) off l=some ty→off+ty.size≤cs.length→
   (l.mapM fun p=>DataW.trod enc P w 0 (fun _=>true) true fuel p.2 ((cs.drop p.1).take (P.cellsOf p.2)))=some out→jA (DataW.weightsEach P (l.map (·.2)) (out.map (·.1)))→O7 P w ty ((cs.drop off).take ty.size)
 |[x],off,ty,cs,out,h,hc,hm,hw=>by
  obtain⟨h1,h2⟩:=wM h;have ho:x.1=off:=by simpa using h1
  simp only[List.mapM_cons,List.mapM_nil,Option.pure_def,Option.bind_eq_bind,Option.bind_eq_some_iff] at hm;obtain⟨y,hy,_,e,e'⟩:=hm;cases e;cases e';rw[ho,WQ h2] at hy;exact ih _ _ _ _ h2 hy (pZ.1 hw).1
 |x::y::l,off,ty,cs,out,h,hc,hm,hw=>by
  obtain⟨h1,h2⟩:=wM h;have ho:x.1=off:=by simpa using h1
  split at h2
  ·rename_i a ha;split at h2
   ·rename_i b hb;cases h2;simp only[Ty.size] at hc⊢;rw[List.mapM_cons] at hm;simp only[Option.pure_def,Option.bind_eq_bind,Option.bind_eq_some_iff] at hm;obtain⟨z,hz,zs,hzs,e⟩:=hm;cases e;rw[ho,WQ ha] at hz;have hw:=pZ.1 hw;obtain⟨p,p1,p2,p3⟩:=ih _ _ _ _ ha hz hw.1;obtain⟨q,q1,q2,q3⟩:=yLu ih (y::l) (off+a.size) b cs zs hb (by omega) hzs hw.2;refine⟨(p,q),by simp only[List.length_take,List.length_drop,Ty.size];omega,⟨?_,?_⟩,p3,q3⟩
    ·refine vB (fun _ h=>h) (by simp) a p _ _ (fun j hj=>?_) p2;simp only[List.getElem?_take,List.getElem?_drop];rw[if_pos (by omega),if_pos hj]
    grind
   ·cases h2
  ·cases h2
theorem WR:∀d t ty fuel cs x,o6 P d t=some ty→DataW.trod enc P w 0 (fun _=>true) true fuel t cs=some x→jA (x.1.weights P t)→O7 P w ty cs
 |0,_,_,_,_,_,h,_,_=>by cases h
 |d+1,t,ty,0,cs,x,_,h,_=>by simp[DataW.trod] at h
 |d+1,t,ty,fuel+1,cs,x,hl,h,hw=>by
  unfold o6 at hl;split at hl
  ·rename_i k hu;obtain⟨_,hl⟩:=wM hl;cases hl;obtain⟨n,rfl,_,xq⟩:=DataW.trod_int hu h;exact⟨n,rfl,rfl,xq⟩
  ·rename_i hu;obtain⟨_,hl⟩:=wM hl;cases hl;obtain⟨b,rfl,_⟩:=DataW.trod_bool hu h;exact⟨b,rfl,rfl,trivial⟩
  ·rename_i e hu;obtain⟨j6,hl⟩:=wM hl;rw[Bool.and_eq_true] at j6;have j6:=Nat.le_of_ble_eq_true j6.2;split at hl
   ·rename_i a ha;cases hl;rcases DataW.trod_slice hu h with⟨rfl,_⟩|⟨ad,len,cap,elems,rest,n,hn,rfl,rfl,_,UI,hm,hel,hg,_,_⟩
    ·refine⟨([]:List a.den),rfl,?_,?_⟩
     ·simp only[qF];exact⟨none,0,0,rfl,rfl,Nat.le_refl _,.inl ⟨trivial,fun _=>rfl⟩⟩
     ·simp only[Wf];exact by simp
    ·unfold DataW.weights at hw;rw[hu] at hw;have hw:jA ([((elems.map (·.1)).length+(rest.map (·.1)).length)*P.bytesOf e]++(DataW.weightsAll P e (elems.map (·.1))++DataW.weightsAll P e (rest.map (·.1)))):=hw;obtain⟨su,hw⟩:=pZ.1 hw;have hw2:=(pZ.1 hw).1;have hlen:len≤reachBytes:=by
      simp only[jA,List.all_cons,List.all_nil,Bool.and_true,decide_eq_true_eq,List.length_map] at su;have:=Nat.mul_le_mul_left (elems.length+rest.length) j6;omega
     have key:∀i,i<len→∃x:a.den,(qF w.heap (Ka w) a x (fun j=>yW w.heap ad.block (ad.off+i*a.size+j))∧(i=0→ad.spot=none)∧ad.block<w.heap.size)∧Wf a x:=by
      intro i hi;have h1:=hg i hi;have V1:i<elems.length:=by omega
      rw[List.getElem?_eq_getElem V1,Option.bind_eq_some_iff] at h1;obtain⟨cs,nP,htr⟩:=h1;rw[WQ ha] at nP;obtain⟨y,y1,y2,y3⟩:=WR d e a n cs _ ha htr (yWb hw2 (by grind));obtain⟨c1,c2⟩:=vTc nP;have Bv:∀j,((ad.add (i*a.size)).add j).block=ad.block∧((ad.add (i*a.size)).add j).off=ad.off+i*a.size+j:=by
       intro j;unfold Addr.add;constructor
       ·split<;>split<;>rfl
       ·split<;>split<;>simp_all
      have at0:(i=0→ad.spot=none)∧ad.block<w.heap.size:=by
       obtain⟨v,_,hv⟩:=c2 0 a.size_pos;have h1:=yVa hv;refine⟨fun h0=>?_,by have:=h1.2.1;rwa [(Bv 0).1] at this⟩;have h2:=h1.1;subst h0
       simpa[Addr.add] using h2
      refine⟨y,⟨vB (fun _ h=>h) (fun _ _=>rfl) a y _ _ (fun j hj=>?_) y2,at0⟩,y3⟩;obtain⟨v,v1,v2⟩:=c2 j hj;rw[v1];have h1:=(yVa v2).2.2
      rwa [(Bv j).1,(Bv j).2] at h1
     obtain⟨xs,x1,x2⟩:=yIm len key;refine⟨xs,rfl,?_,?_⟩
     ·simp only[qF];refine⟨some ad,len,cap,rfl,x1.symm,UI,?_⟩;by_cases h0:xs=[]
      ·exact by grind
      ·refine .inr ⟨ad.block,ad.off,?_,?_,fun i hi=>(x2 i hi).1.1⟩
       ·have:=(x2 0 (List.length_pos_iff.2 h0)).1.2.1 rfl;cases ad;simp at this;rw[this]
       ·exact by grind
     ·simp only[Wf];exact by grind
   ·cases hl
  ·rename_i y n1 n2 n3 hu;split at hl
   ·rename_i a ha;obtain⟨dK,hl⟩:=wM hl;cases hl;have dK:P.cellsOf t=ty.size:=by simpa using dK
    have fin:∀out,cs.length=P.cellsOf t→((ss P y).mapM fun p=>DataW.trod enc P w 0 (fun _=>true) true fuel p.2 ((cs.drop p.1).take (P.cellsOf p.2)))=some out→jA (DataW.weightsEach P ((ss P y).map (·.2)) (out.map (·.1)))→O7 P w ty cs:=by
     intro out hlen kF hw;have:=yLu (fun t' ty' aS x' h1 h2 h3=>WR d t' ty' fuel aS x' h1 h2 h3) (ss P y) 0 ty cs out ha (by omega) kF hw
     rwa [List.drop_zero,List.take_of_length_le (by omega)] at this
    unfold DataW.trod at h;rw[hu] at h;cases y with
    |struct fs=>
     dsimp only at h;split at h
     ·rename_i hlen;rw[Option.map_eq_some_iff] at h;obtain⟨out,ho,rfl⟩:=h;unfold DataW.weights at hw;rw[hu] at hw;refine fin out hlen ?_ (by rw[ss,List.map_map];exact hw);simp only[ss,List.mapM_map];exact ho
     ·cases h
    |array n e=>
     dsimp only at h;split at h
     ·rename_i hlen;rw[Option.map_eq_some_iff] at h;obtain⟨out,ho,rfl⟩:=h;unfold DataW.weights at hw;rw[hu] at hw;refine fin out hlen ?_ (yJ3 (fun t ht=>by simp[ss] at ht;exact ht.2.symm) hw);simp only[ss,List.mapM_map];exact ho
     ·cases h
    |_=>simp[ss,J9] at ha
   ·cases hl
  ·cases hl
end
open Go.ChangeShapes Go.WideShapes Go.ChangeAt Go.RowKit
def uj (sh:Bool):Ty→List PC
 |.int k=>[.int k]
 |.bool=>[.bool]
 |.sl t=>[.dat sh t]
 |.pair a b=>uj sh a++uj sh b
def xr:(l m:List PC)→PL l→PL m→PL (l++m)
 |[],_,_,e=>e
 |_::l,m,d,e=>(d.1,xr l m d.2 e)
theorem WS:∀l m d e,wA (l++m) (xr l m d e)=wA l d++wA m e
 |[],_,_,_=>rfl
 |p::l,m,d,e=>by
  show Er p d.1::wA (l++m) (xr l m d.2 e)=Er p d.1::(wA l d.2++wA m e);rw[WS l m d.2 e]
def sv sh:(t:Ty)→t.den→PL (uj sh t)
 |.int _,n=>(n,())
 |.bool,b=>(b,())
 |.sl _,xs=>(xs,())
 |.pair a b,p=>xr _ _ (sv sh a p.1) (sv sh b p.2)
def WfP:(p:PC)→p.den→Prop
 |.int k,n=>(Lit.int k n).wf=true
 |.bool,_=>True
 |.dat _ t,xs=>Wf (.sl t) xs
 |.fn _,_=>True
 |.nil,_=>True
 |.nilp,_=>True
def uk:(l:List PC)→PL l→Prop
 |[],_=>True
 |p::l,d=>WfP p d.1∧uk l d.2
theorem WT:∀l m d e,uk l d→uk m e→uk (l++m) (xr l m d e)
 |[],_,_,_,_,h=>h
 |_::l,m,d,e,h,h'=>⟨h.1,WT l m d.2 e h.2 h'⟩
theorem WU sh:∀t x,Wf t x→uk (uj sh t) (sv sh t x)
 |.int _,_,h
 |.bool,_,h
 |.sl _,_,h=>⟨h,trivial⟩
 |.pair a b,p,h=>WT _ _ _ _ (WU sh a p.1 h.1) (WU sh b p.2 h.2)
theorem O8:∀l d,(wA l d).length=l.length
 |[],_=>rfl
 |p::l,d=>by
  show(wA l d.2).length+1=l.length+1;rw[O8 l d.2]
def M0 (w:World):zK:=⟨fun _=>none,Ka w,Ka w,mb [],w.heap⟩
theorem WV w:Ok (M0 w) where
 obj:=nofun
 non:=fun _ _=>rfl
 disj:=fun i j oi oj Ci Cj b _ h=>by cases h
 own:=nofun
 GF:=fun _ h=>h
 Flt:=fun _ h=>h
theorem WW sh {w}:∀t x cs,cs.length=t.size→qF w.heap (Ka w) t x (fun j=>cs[j]?)→zN (zX (M0 w)) (wA (uj sh t) (sv sh t x)) cs
 |.int k,n,cs,hl,h=>by
  match cs,hl with
  |[c],_=>
   have e:c=.int k n:=by simpa[qF] using h
   exact⟨e,trivial⟩
 |.bool,b,cs,hl,h=>by
  match cs,hl with
  |[c],_=>
   have e:c=.bool b:=by simpa[qF] using h
   exact⟨e,trivial⟩
 |.sl t,xs,cs,hl,h=>by
  match cs,hl with
  |[c],_=>
   refine⟨?_,trivial⟩;have h':=vB (F':=(bif sh then(M0 w).G else(M0 w).F)) (fun b h=>by cases sh<;>exact h) (fun b _=>rfl) (.sl t) xs (fun j=>[c][j]?) (fun _=>some c) (by grind) h;exact h'
 |.pair a b,p,cs,hl,h=>by
  have dO:cs.length=a.size+b.size:=hl;have h1:=WW sh a p.1 (cs.take a.size) (by grind) (vB (fun _ h=>h) (by simp) a p.1 _ _ (by grind) h.1);have h2:=WW sh b p.2 (cs.drop a.size) (by grind) (vB (by simp) (fun _ _=>rfl) b p.2 _ _ (by grind) h.2);show zN _ (wA (uj sh a++uj sh b) (xr _ _ (sv sh a p.1) (sv sh b p.2))) cs;rw[WS];have:=zN.append h1 h2;simp_all
def sw (sh : Bool) (P : Program) (t : TypeId) (ty : Ty) : AS := bif eM P t == some true then .agg (uj sh ty) else (match ty with
 |.int k=>.c (.int k)|.bool=>.c .bool|.sl t=>.c (.dat sh t)|.pair a b=>.agg (uj sh (.pair a b)))
def O9 (P:Program):List TypeId→Option (List Ty)
 |[]=>some []
 |t::ts=>match o6 P 8 t,O9 P ts with
  |some a,some l=>some (a::l)
  |_,_=>none
def um (sh:Bool)(P:Program):List TypeId→List Ty→List AS
 |t::ts,a::l=>sw sh P t a::um sh P ts l
 |_,_=>[]
theorem vNw {P t ty}(h:o6 P 8 t=some ty)(ha:(eM P t==some true)=false):(∃k,P.underlying t=some (.int k)∧ty=.int k)∨(P.underlying t=some .bool∧ty=.bool)∨∃e a,P.underlying t=some (.slice e)∧ty=.sl a:=by
 unfold o6 at h;split at h
 ·grind
 ·grind
 ·grind
 ·rename_i x _ _ _ hu;split at h
  ·rename_i a hx;unfold eM at ha;rw[hu] at ha;cases x<;>first|(simp[ss,J9] at hx;done)|(cases ha)
  ·cases h
 ·cases h
section
variable {H:Type} {enc:TypeId×Value→H} {P:Program} {w:World}
theorem vS8 sh {t ty v d ps base}(hl:o6 P 8 t=some ty)(fR:Value.okWide P w .any base t v)(h:DataW.Trod enc P w 0 (fun _=>true) true t v d ps)(hw:jA (d.weights P t)):
  ∃x:PL (sw sh P t ty).cells,(∀n,zV (M0 w) ((sw sh P t ty).mk n (wA _ x)) v)∧(sw sh P t ty).boxes (wA _ x)=[]∧uk _ x:=by
 obtain⟨fuel,hf⟩:=h;obtain⟨x,x1,x2,x3⟩:=WR 8 t ty fuel _ _ hl hf hw;have dy:=WW sh ty x _ x1 x2;have Ew:=WU sh ty x x3;unfold sw;cases ha:(eM P t==some true) with
 |true=>
  refine⟨sv sh ty x,fun n=>?_,rfl,Ew⟩;have rT:eM P t=some true:=by simp_all
  have hv:∃cs,v=.agg cs:=by
   unfold eM at rT;unfold Value.okWide at fR;grind
  obtain⟨cs,rfl⟩:=hv;exact⟨cs,rfl,dy⟩
 |false=>
  rcases vNw hl ha with⟨k,hu,rfl⟩|⟨hu,rfl⟩|⟨e,a,hu,rfl⟩
  ·have hv:∃n,v=.int k n:=by
    simp[Value.okWide,Cell.okWide] at fR;cases v<;>simp_all[Cell.ok]
   obtain⟨n0,rfl⟩:=hv;exact⟨sv sh _ x,fun n=>dy.1,rfl,Ew⟩
  ·have hv:∃b,v=.bool b:=by
    simp[Value.okWide,Cell.okWide] at fR;cases v<;>simp_all[Cell.ok]
   obtain⟨b,rfl⟩:=hv;exact⟨sv sh _ x,fun n=>dy.1,rfl,Ew⟩
  ·obtain⟨ad,len,cap,rfl⟩:=okWide_slice hu fR;exact⟨sv sh _ x,fun n=>dy.1,rfl,Ew⟩
theorem yU9 sh {base}:∀ts tys vs ds ps n,O9 P ts=some tys→(∀(j:Nat) t v,ts[j]? =some t→vs[j]? =some v→Value.okWide P w .any base t v)→
  DataW.TrodAll enc P w 0 (fun _=>true) true ts vs ds ps→jA (DataW.weightsEach P ts ds)→∃x:AD (um sh P ts tys),zN (zV (M0 w)) (ma (um sh P ts tys) (wA _ x) n).1 vs∧(ma (um sh P ts tys) (wA _ x) n).2=[]∧uk _ x
 |[],tys,vs,ds,ps,n,hl,fR,h,_=>by
  match vs,ds,h with
  |[],[],_=>exact⟨(),trivial,rfl,trivial⟩
 |t::ts,tys,vs,ds,ps,n,hl,fR,h,hw=>by
  unfold O9 at hl;split at hl
  ·rename_i a l ha dO;cases hl
   match vs,ds,h with
   |v::vs,d::ds,h=>
    obtain⟨p,q,h1,h2,_⟩:=h;have hw:=pZ.1 hw;obtain⟨x,x1,x2,x3⟩:=vS8 sh ha (fR 0 t v rfl rfl) h1 hw.1;obtain⟨y,y1,y2,y3⟩:=yU9 sh ts l vs ds q n dO (fun j t' v' h1 h2=>fR (j+1) t' v' h1 h2) h2 hw.2;refine⟨xr _ _ x y,?_⟩;have e:wA ((um sh P (t::ts) (a::l)).flatMap AS.cells) (xr _ _ x y)=wA _ x++wA _ y:=WS _ _ _ _;have ht:(wA _ x++wA _ y).take (sw sh P t a).cells.length=wA _ x:=by
     rw[List.take_append_of_le_length (by rw[O8];omega),List.take_of_length_le (by rw[O8];omega)]
    have hd:(wA _ x++wA _ y).drop (sw sh P t a).cells.length=wA _ y:=by
     rw[List.drop_append_of_le_length (by rw[O8];exact by simp),List.drop_of_length_le (by grind),List.nil_append]
    rw[e];have em:ma (um sh P (t::ts) (a::l)) (wA _ x++wA _ y) n=((sw sh P t a).mk n (wA _ x)::(ma (um sh P ts l) (wA _ y) n).1,(ma (um sh P ts l) (wA _ y) n).2):=by
     show((sw sh P t a).mk n _::_,(sw sh P t a).boxes _++_)=_;simp_all
    rw[em];exact⟨⟨x1 n,y1⟩,y2,WT _ _ _ _ x3 y3⟩
  ·cases hl
theorem yI6 {us}{gs:List (DataW H)}:∀{ts ds},ts.length=ds.length→jA (DataW.weightsEach P (ts++us) (ds++gs))→jA (DataW.weightsEach P ts ds)
 |[],[],_,_=>by rfl
 |t::ts,d::ds,hl,h=>pZ.2 ⟨(pZ.1 h).1,yI6 (by simp_all) (pZ.1 h).2⟩
theorem yPq:∀{ts vs ds ps},DataW.TrodAll enc P w 0 (fun _=>true) true ts vs ds ps→ts.length=ds.length
 |[],[],[],_,_=>rfl
 |_::_,_::_,_::_,_,⟨_,_,_,h,_⟩=>by rw[List.length_cons,List.length_cons,yPq h]
theorem lawArgs sh {base ts tys asp vs ds ps}(hl:O9 P ts=some tys)(has:um sh P ts tys=asp)
  (fR:∀(j:Nat) t v,ts[j]? =some t→vs[j]? =some v→Value.okWide P w .any base t v) (h:DataW.TrodAll enc P w 0 (fun _=>true) true ts vs ds ps) {us gs} (hw:jA (DataW.weightsEach P (ts++us) (ds++gs))):
  ∃x:AD asp,zN (zV (M0 w)) (ma asp (wA _ x) 0).1 vs∧(ma asp (wA _ x) 0).2=[]∧uk _ x:=by
 subst has;exact yU9 sh ts tys vs ds ps 0 hl fR h (yI6 (yPq h) hw)
theorem law_calls {E}(hE:gA E)(hS:j9 E.sums)(hm:E.P.follows .mixedOrders=true){A k pre f fn}(hf:E.P.funcs[f]? =some fn)(hL:∀c,fn.body=some c→wK E.P A pre 0 fn.ntmps c)
  {as d unpack} (hup:∀d,unpack d=d.1) (aV:kA E A k pre 0 fn (pW as d).1 (pW as d).2 (mT (.c .bool) unpack)=some true) (hb:(ma as (wA _ d) 0).2=[]) {vs} (hv:zN (zV (M0 w)) (ma as (wA _ d) 0).1 vs.toList):
  Calls E.P f vs w fun e w'=>e=.returned (.bool true)∧Below w.heap.size w w':=by
 have hh:(M0 w).h=(pW as d).2:=by
  show mb []=mb (ma as (wA _ d) 0).2;rw[hb]
 refine Calls.mono (Wi hE hS hm hf hL aV (M:=M0 w) (w:=w) hh rfl (WV w) hv) fun e w' he=>?_
 cases e with
 |returned rv=>
  obtain⟨M',v,st,hK,_,hH,_,hg,_,hrv,o1,o2,o3,_⟩:=he;refine⟨?_,o1,o2,o3,?_,fun b hb=>?_⟩
  ·unfold mT at hK;split at hK
   ·rename_i r hr;unfold J3 at hr;split at hr
    ·rename_i cs nP;split at hr
     ·rename_i aS u D4;cases v with
      |c x=>
       cases nP;have e1:aS=[x]:=by
        simp[RS.cells,RC.isFro,gD] at D4;simp_all
       subst e1;have rZ:kK (qH st.h u) [.bool] [x]=some r:=hr;cases x with
       |bool b=>
        have e2:r=(b,()):=by simp[kK,pX] at rZ;grind
        have:rv=.bool b:=hrv;grind
       |_=>simp[kK,pX] at rZ
      |_=>cases nP
     ·cases hr
    ·cases hr
   ·cases hK
  ·have:=hg.size;rw[hH] at this;exact this
  ·have:=hg.same b hb;rw[hH] at this;exact this
 |_=>simp_all
end
inductive XC where
 |p (c:PC)|own (t:Ty)|mat|map
 |link (j:Nat)
abbrev XC.den:XC→Type
 |.p c=>c.den|.own t=>List t.den|.mat=>List (List Int)|.map=>List (Int×Bool)|.link _=>Unit
def XC.lnk:XC→Option Nat
 |.link j=>some j
 |_=>none
def RC.lnk:RC→Option Nat
 |.link j=>some j
 |_=>none
def sA:List (Option Nat)→List Nat→List qA→Bool
 |none::l,ids,_::cs=>sA l ids cs
 |some j::l,ids,.ptr id 0::cs=>(match ids[j]? with|some k=>Nat.beq id k|none=>false)&&sA l ids cs
 |some _::_,_,_=>false
 |_,_,_=>true
def Bw:List (Option Nat)→List Nat→List qA→List qA
 |none::l,ids,c::cs=>c::Bw l ids cs
 |some j::l,ids,c::cs=>(match ids[j]? with|some id=>.ptr id 0|none=>c)::Bw l ids cs
 |_,_,cs=>cs
def WX:List qA→Option Nat
 |[]=>none
 |.ptr id 0::_=>some id
 |_::l=>WX l
def Kb (h:Hp):Nat→Nat→Option (List Nat)
 |0,_=>none
 |1,id=>some [id]
 |n+2,id=>match Ep h id with
  | some cells => (match WX cells with
   |some id2=>(match Kb h (n+1) id2 with|some l=>some (id::l)|none=>none)
   |none=>none)
  |none=>none
def me:Nat→Nat→List Nat
 |_,0=>[]
 |n,m+1=>n::me (n+1) m
abbrev XL:List XC→Type
 |[]=>Unit
 |c::l=>c.den×XL l
inductive AX where
 |c (x:XC)|agg (l:List PC)|ptr (io:Bool) (l:List XC)|fn (f:Nat) (bA:List (Bool×List XC))
 |chn (ls:List (List XC))
def AX.cells:AX→List XC
 |.c x=>[x]
 |.agg l=>l.map .p
 |.ptr _ l=>l
 |.fn _ bA=>bA.flatMap (·.2)
 |.chn ls=>ls.flatten
def AX.nb:AX→Nat
 |.ptr _ _=>1
 |.fn _ bA=>bA.length
 |.chn ls=>ls.length
 |_=>0
def AX.isChn:AX→Bool
 |.chn _=>true
 |_=>false
def Ey (ls:List (List XC)):List (Bool×List XC):=ls.map fun l=>(true,l)
abbrev XD (l:List AX):Type:=XL (l.flatMap AX.cells)
def AX.looks:AX→Bool
 |.ptr _ _=>true
 |.fn _ _=>true
 |_=>false
def uo (l:List AX)(na:Nat):Bool:=l.zipIdx.all fun p=> !p.1.looks||Nat.blt p.2 na
def Ez (h:Hp)(io:Bool)(id:Nat):Option (List qA):=match io,h id with
 |true,some (.box true cells)=>some cells
 |false,some (.box _ cells)=>some cells
 |false,some (.robox cells)=>some cells
 |_,_=>none
def kb (h:Hp):List (Bool×List XC)→List Nat→Option (List qA×List (Bool×Nat))
 |[],[]=>some ([],[])
 |(io,l)::ls,id::ids=>match Ez h io id,kb h ls ids with
  |some cells,some (rest,bs)=>bif Nat.beq cells.length l.length then some (cells++rest,(io,id)::bs) else none
  |_,_=>none
 |_,_=>none
def AX.get (h:Hp):AX→zW→Option (List qA×List (Bool×Nat))
 |.c _,.c x=>some ([x],[])
 |.agg l,.agg xs=>bif Nat.beq xs.length l.length then some (xs,[]) else none
 |.ptr io l,.c (.ptr id 0)=>kb h [(io,l)] [id]
 |.fn f bA,.c (.fn g ids)=>bif Nat.beq f g then kb h bA ids else none
 |.chn ls,.c (.ptr id 0)=>match Kb h ls.length id with
  |some ids=>kb h (Ey ls) ids
  |none=>none
 |_,_=>none
def kL (h:Hp):List AX→List zW→Option (List qA×List (Bool×Nat))
 |[],[]=>some ([],[])
 |s::l,a::as=>match s.get h a,kL h l as with
  |some (cs,bs),some (aS,Bx)=>some (cs++aS,bs++Bx)
  |_,_=>none
 |_,_=>none
def Kc (h:Hp):(x:XC)→qA→Option x.den
 |.p p,c=>ug h p c
 |.own t,.osl id none=>match h id with
  |some (.arr true s xs)=>iu s t xs
  |_=>none
 |.mat,.osl id none=>match h id with
  |some (.mat _ xs)=>some xs
  |_=>none
 |.map,.map id=>match h id with
  |some (.imap df)=>some df
  |_=>none
 |.link _,.ptr _ 0=>some ()
 |_,_=>none
def qa (h:Hp):(l:List XC)→List qA→Option (XL l)
 |[],[]=>some ()
 |x::l,c::cs=>match Kc h x c,qa h l cs with
  |some d,some ds=>some (d,ds)
  |_,_=>none
 |_,_=>none
def jS:List XC→List qA→List Nat
 |.p _::l,_::cs=>jS l cs
 |.link _::l,_::cs=>jS l cs
 |_::l,.osl id _::cs=>id::jS l cs
 |_::l,.map id::cs=>id::jS l cs
 |_::l,_::cs=>jS l cs
 |_,_=>[]
def Ke:List XC→List qA→List Nat
 |.p _::l,c::cs=>vL c++Ke l cs
 |_::l,_::cs=>Ke l cs
 |_,_=>[]
def wN:Nat:=500
def iB:(l:List XC)→XL l→Nat→List qA×List Obj
 |[],_,_=>([],[])
 |.p p::l,d,n=>let r:=iB l d.2 n;(Er p d.1::r.1,r.2)
 |.own t::l,d,n=>let r:=iB l d.2 (n+1);(.osl n none::r.1,.arr true t d.1::r.2)
 |.mat::l,d,n=>let r:=iB l d.2 (n+1);(.osl n none::r.1,.mat 0 d.1::r.2)
 |.map::l,d,n=>let r:=iB l d.2 (n+1);(.map n::r.1,.imap d.1::r.2)
 |.link j::l,d,n=>let r:=iB l d.2 n;(.ptr j 0::r.1,r.2)
def Kf:List (Bool×List XC)→List qA→List Obj
 |[],_=>[]
 |(io,l)::ls,cs=>(bif io then .box true (cs.take l.length) else .robox (cs.take l.length))::Kf ls (cs.drop l.length)
def AX.mk (n:Nat)(cs:List qA):AX→zW
 |.c _=>match cs with|x::_=>.c x|[]=>.undef
 |.agg _=>.agg cs
 |.ptr _ _=>.c (.ptr n 0)
 |.fn f bA=>.c (.fn f ((List.range bA.length).map (n+·)))
 |.chn _=>.c (.ptr n 0)
def AX.boxes (cs:List qA):AX→List Obj
 |.ptr io l=>Kf [(io,l)] cs
 |.fn _ bA=>Kf bA cs
 |.chn ls=>Kf (Ey ls) cs
 |_=>[]
def By:List AX→List qA→Nat→List zW×List Obj
 |[],_,_=>([],[])
 |s::l,cs,n=>
  let aq:=cs.take s.cells.length;let bs:=s.boxes aq;let rest:=By l (cs.drop s.cells.length) (n+bs.length)
  (s.mk n aq::rest.1,bs++rest.2)
def Kg (bs rows:List Obj):Hp:=fun n=>bif Nat.ble wN n then rows[n-wN]? else bs[n]?
def kM l (d:XD l):List zW×Hp:=
 let r:=iB (l.flatMap AX.cells) d wN;let m:=By l r.1 0
 (m.1,Kg m.2 r.2)
def Kh:List (Bool×List XC)→List Nat→Option (List Nat)
 |[],[]=>some []
 |(io,_)::ls,id::ids=>match Kh ls ids with
  |some l=>some (bif io then id::l else l)
  |none=>none
 |_,_=>none
def AX.io (b:Nat):AX→zW→Option (List Nat)
 |.c _,_=>some []
 |.agg _,_=>some []
 |.ptr io l,.c (.ptr id 0)=>Kh [(io,l)] [id]
 |.fn _ bA,.c (.fn _ ids)=>Kh bA ids
 |.chn ls,_=>some (me b ls.length)
 |_,_=>none
def Pb:List AX→(Nat→zW)→Nat→Nat→Option (List Nat)
 |[],_,_,_=>some []
 |s::l,t,n,b=>match s.io b (t n),Pb l t (n+1) (b+s.nb) with
  |some a,some b=>some (a++b)
  |_,_=>none
def EA (h:Hp):List (List RC)→List Nat→Option (List qA)
 |[],[]=>some []
 |o::os,n::ns=>match h n,EA h os ns with
  |some (.box true cells),some rest=>bif Nat.beq cells.length o.length then some (cells++rest) else none
  |_,_=>none
 |_,_=>none
def WY (h:Hp)(ns:Nat)(cs:List qA):Option (List Nat):=bif Nat.beq ns 0 then some [] else match WX cs with
 |some id=>Kb h ns id
 |none=>none
def xu (st:St)(as:List AX)(rs:RS)(os:List (List RC))(ns:Nat)(v:zW):Option (RL (rs.cells++os.flatten)):=
 match Pb as st.t 0 0 with
 |none=>none
 |some io=>match rs.get v with
  |none=>none
  |some cs=>match WY st.h ns cs with
   |none=>none
   |some nw=>match EA st.h os (io++nw) with
    |none=>none
    | some bs => bif tH (io ++ nw) then (match gD st.h ((rs.cells++os.flatten).map RC.isFro) (cs++bs) with
     |some (cs,u)=>bif tH (wG (rs.cells++os.flatten) cs)&&sA ((rs.cells++os.flatten).map RC.lnk) (io++nw) cs then kK (qH st.h u) (rs.cells++os.flatten) cs else none
     |none=>none) else none
def Ki (as:List AX)(rs:RS)(os:List (List RC))(ns:Nat){X:Type}(unpack:RL (rs.cells++os.flatten)→X)(v:zW)(st:St):Option X:=match xu st as rs os ns v with
 |some d=>some (unpack d)
 |none=>none
def Pc (as:List AX)(rs:RS)(os:List (List RC))(ns:Nat)(dA:RS)(dB:List (List RC))(fF:Nat){X Y:Type}(up:RL (rs.cells++os.flatten)→X)(lv:RL (dA.cells++dB.flatten)→Y)(v:zW)(st:St):Option (X⊕Y):=match xu st as rs os ns v with
 |some d=>some (.inl (up d))
 |none=>match xu st as dA dB fF v with
  |some d=>some (.inr (lv d))
  |none=>none
def xv:List (List RC)→List qA→List (List qA)
 |[],_=>[]
 |o::os,cs=>cs.take o.length::xv os (cs.drop o.length)
def vQ:List (Bool×Nat)→List Nat
 |[]=>[]
 |(true,id)::l=>id::vQ l
 |(false,_)::l=>vQ l
def Pd:List (Bool×Nat)→List Nat
 |[]=>[]
 |(true,_)::l=>Pd l
 |(false,id)::l=>id::Pd l
def EB:List Nat→List (List qA)→vG
 |id::ids,cs::css=>(id,.box true cs)::EB ids css
 |_,_=>[]
def qb (ids:List Nat):vG:=ids.map fun id=>(id,.gone)
def WZ (nm:Nat)(rs:RS)(os:List (List RC))(ids:List Nat)(d:RL (rs.cells++os.flatten)):zW×vG:=
 let r:=oW nm (rs.cells++os.flatten) d;let cs:=Bw ((rs.cells++os.flatten).map RC.lnk) ids r.1
 (rs.mk (cs.take rs.cells.length),r.2++EB ids (xv os (cs.drop rs.cells.length)))
def W0 (a b:List Nat):Bool:=a.all fun x=> !b.any (Nat.beq x)
def xw (h:Hp):AX→zW→Option (zW×vG)
 |.c (.p p),.c x=>match gD h [p.isKept] [x] with
  |some ([x],u)=>some (.c x,u)
  |_=>none
 |.agg l,.agg xs=>match gD h (l.map PC.isKept) xs with
  |some (xs,u)=>some (.agg xs,u)
  |none=>none
 |_,a=>some (a,[])
def sB (h:Hp):List AX→List zW→Option (List zW×vG)
 |s::l,a::as=>match xw h s a,sB h l as with
  |some (a,u),some (as,us)=>some (a::as,u++us)
  |_,_=>none
 |_,as=>some (as,[])
def Bz as (nm n:Nat)(args:List zW)(h:Hp):Option (vG×List Nat×List Nat×XD as):=
 match sB h as args with
 |none=>none
 |some (args,u)=>match kL (qH h u) as args with
  |none=>none
  |some (cs,bs)=>match qa (qH h u) (as.flatMap AX.cells) cs with
   |none=>none
   |some d=>
    let rows:=jS (as.flatMap AX.cells) cs;let aq:=vQ bs++rows
    bif xj h nm n&&Nat.ble n 100&&Nat.ble bs.length wN&&tH aq&&W0 aq (Ke (as.flatMap AX.cells) cs)&&W0 aq (Pd bs)&&sA ((as.flatMap AX.cells).map XC.lnk) (bs.map (·.2)) cs then
     some (u,vQ bs,rows,d)
    else none
def Kj (u:vG)(io rows:List Nat)(rs:RS)(os:List (List RC))(ns nm:Nat)(d:RL (rs.cells++os.flatten)):zW×vG:=
 let r:=WZ nm rs os (io++me (nm+(rs.cells++os.flatten).length) ns) d
 (r.1,u++(qb rows++r.2))
def sC as (rs:RS)(os:List (List RC))(ns:Nat){X}(S:XD as→Option X)(pack:X→RL (rs.cells++os.flatten))(nm:Nat)(args:List zW)(h:Hp):yU:=
 match Bz as nm ((rs.cells++os.flatten).length+ns) args h with
 |none=>.stuck
 |some (u,io,rows,d)=>.call X (S d) fun r=>Kj u io rows rs os ns nm (pack r)
def uq as (rs:RS)(os:List (List RC))(ns:Nat)(dA:RS)(dB:List (List RC))(fF:Nat){X Y}(S:XD as→Option (X⊕Y))(pk:X→RL (rs.cells++os.flatten))(iU:Y→RL (dA.cells++dB.flatten))(nm:Nat)(args:List zW)(h:Hp):yU:=
 match Bz as nm (((rs.cells++os.flatten).length+ns)+((dA.cells++dB.flatten).length+fF)) args h with
 |none=>.stuck
 |some (u,io,rows,d)=>.call2 X Y (S d) (fun r=>Kj u io rows rs os ns nm (pk r)) (fun r=>Kj u io rows dA dB fF nm (iU r))
def lz (M:zK)(aq:List Nat)(b:Nat):Prop:=∃id∈aq,∃C,M.κ id=some C∧b∈C.fp
structure sD (M:zK) (aq:List Nat) (Ml:zK):Prop where
 H:Ml.H=M.H
 F:Ml.F=fun b=>b<M.H.size∧¬lz M aq b
 G:Ml.G=M.G
def nS (M:zK)(aq:List Nat):Prop:=∀id∈aq,∃o,M.h id=some o∧o.owned=true
theorem lz.own {M aq}(ho:nS M aq){b}(h:lz M aq b):qN M b:=by
 obtain⟨id,an,C,hC,hb⟩:=h;obtain⟨o,h1,h2⟩:=ho id an;exact⟨id,o,C,h1,h2,hC,hb⟩
theorem ur {M}(ok:Ok M){aq}(ho:nS M aq){b}(h:M.F b):b<M.H.size∧¬lz M aq b:=⟨ok.Flt b h,fun hh=>(ok.own b (hh.own ho)).1 h⟩
theorem vJl {M M'}(ok:Ok M){aq}(ho:nS M aq){id o}(hn:id∉aq)(hh:M'.h=yL M.h id o)(hκ:M'.κ=M.κ)(hH:M'.H=M.H)(gW:Ok M'){b}(h:M'.G b):b<M.H.size∧¬lz M aq b:=by
 have hf:=gW.GF b h;refine⟨by have:=gW.Flt b hf;simp_all,fun hd=>?_⟩;obtain⟨jd,hj,C,hC,hb⟩:=hd;obtain⟨q,h1,h2⟩:=ho jd hj;refine(gW.own b ⟨jd,q,C,?_,h2,?_,hb⟩).1 hf
 ·rw[hh,yV _ _ (by grind)];exact h1
 simp_all
theorem vN4 {M}(ok:Ok M){aq}(ho:nS M aq){c v t xs}(hn:∀id∈vL c,id∉aq)(hv:zX M c v)(h:ky M.h c=some ⟨t,xs⟩):
  qF M.H (fun b=>b<M.H.size∧¬lz M aq b) (.sl t) xs (fun _=>some v):=by
 unfold ky at h;split at h
 ·rename_i sh s ys;cases h;cases sh with
  |true=>exact vB (fun b hb=>ur ok ho (ok.GF b hb)) (by simp) _ _ _ _ (fun _ _=>rfl) hv
  |false=>exact vB (fun b hb=>ur ok ho hb) (by simp) _ _ _ _ (fun _ _=>rfl) hv
 ·rename_i id r;have pM:id∉aq:=hn id (by simp[vL]);split at h
  ·rename_i own s ys an;cases h;cases own with
   |false=>
    obtain⟨C,hC,hO⟩:=ok.obj _ _ an;exact vB (fun b hb=>ur ok ho (ok.GF b hb)) (by simp) _ _ _ _ (by simp) (AY hC hO hv)
   |true=>
    obtain⟨M',h1,h2,h3,h4,h5⟩:=vHy ok an;obtain⟨C,hC,hO⟩:=h3.obj id _ (by rw[h2];exact yR _ _ _);have:=AY hC hO (hv.ext h4.ext);exact vB (fun b hb=>vJl ok ho pM h2 h5 h1 h3 hb) (by grind) _ _ _ _ (by simp) this
  ·rename_i ver ys an;cases r with
   |some p=>cases h
   |none=>
    cases h;obtain⟨M',h1,h2,h3,h4,h5⟩:=vAo ok an;obtain⟨C,hC,hO⟩:=h3.obj id _ (by rw[h2];exact yR _ _ _);have:=AY (r:=none) hC hO (hv.ext h4.ext);exact vB (fun b hb=>vJl ok ho pM h2 h5 h1 h3 hb) (by grind) _ _ _ _ (by simp) this
  ·cases h
 ·rename_i id i ver;have pM:id∉aq:=hn id (by simp[vL]);split at h
  ·rename_i v' ys an;cases fS:Nat.beq v' ver with
   |false=>rw[fS] at h;cases h
   |true=>
    rw[fS] at h;cases h;have e:v'=ver:=by simpa using fS
    subst e;obtain⟨C,hC,hO⟩:=ok.obj _ _ an;obtain⟨C',aF,bU,_,aT⟩:=hv;rw[hC] at aF;cases aF;obtain⟨rb,rl,xd,si⟩:=aT hO.1;by_cases hi:i<ys.length
    ·obtain⟨B,pN,v2,k1,k2,k3,k4,k5,k6⟩:=DV hO hi;rw[xd] at k3;cases k3;rw[show ys.getD i []=ys[i] by simp[List.getD,hi]];simp only[qF];cases rb with
     |none=>
      obtain⟨rfl,h0⟩:=si;grind
     |some R=>
      obtain⟨a,c,rfl,h1,h2,h3⟩:=si;refine⟨_,_,c,rfl,rfl,h1,?_⟩;by_cases h0:ys[i].length=0
      ·simp_all
      ·have ha:a=0:=by omega
       subst ha;have hR:R∈C.fp:=by
        simp only[qC.fp,List.mem_append,List.mem_filterMap];grind
       refine .inr ⟨R,0,rfl,⟨?_,fun hd=>?_⟩,fun j hj=>?_⟩
       ·have:=k6 R rfl 0 (by omega);unfold yW at this;grind
       ·obtain⟨jd,hj,D,hD,hb⟩:=hd;obtain⟨q,q1,q2⟩:=ho jd hj;exact ok.disj jd id q _ D C R (by grind) q1 an q2 rfl hD hC hb hR
       ·simp only[qF,Ty.size,Nat.zero_add,Nat.mul_one,Nat.add_zero];exact by grind
    ·have:C.rows[i]? =none:=List.getElem?_eq_none (by have:=hO.2.2.2.1;omega);simp_all
  ·cases h
 ·cases h
def TrX (M:zK)(aq:List Nat)(c c':qA):Prop:=∀v Ml,sD M aq Ml→zX M c v→zX Ml c' v
theorem vPu {M}(ok:Ok M){aq}(ho:nS M aq){p c d}(hn:∀id∈vL c,id∉aq)(h:ug M.h p c=some d):TrX M aq c (Er p d):=by
 intro v Ml lo hv;unfold ug at h;split at h
 ·rename_i k j n;cases e:gv j k with
  |false=>simp_all
  |true=>rw[e] at h;cases h;rw[←tD e];exact hv
 ·cases h;exact hv
 ·show qF Ml.H Ml.F _ _ _;rw[lo.H,lo.F];unfold Bp at h;split at h
  ·cases h;rw[show v=.slice none 0 0 from hv];exact J4
  ·split at h
   ·rename_i s ys hr;obtain⟨e,hx⟩:=lq h;subst e;subst hx;exact vN4 ok ho hn hv hr
   ·cases h
 ·obtain⟨e,hx⟩:=lq h;subst e;subst hx;show qF Ml.H Ml.G _ _ _;rw[lo.H,lo.G];exact hv
 ·cases h;rw[show v=.slice none 0 0 from hv];exact J4
 ·rename_i f g;cases e:Nat.beq f g with
  |false=>simp_all
  |true=>
   have:f=g:=by simp_all
   subst this;obtain⟨cv,rfl,hc⟩:=hv;refine⟨cv,rfl,?_⟩;generalize cv.toList=l at hc;cases l with
   |nil=>trivial
   |cons _ _=>exact hc.elim
 ·exact hv
 ·exact hv
 ·cases h
def sE (M:zK)(aq:List Nat)(κ:Nat→Option qC)(c c':qA):Prop:=∀v Ml,sD M aq Ml→Ml.κ=κ→zX M c v→zX Ml c' v
structure W1 (M:zK) (id:Nat) (o:Obj) (C:qC):Prop where
 κ:M.κ id=some C
 rep:∀Ml:zK,Ml.H=M.H→Ml.G=M.G→yY Ml o {C with ver:=0}
 own:o.owned=true
 was:∃q,M.h id=some q∧q.owned=true
theorem vWm {M Ml}(hH:Ml.H=M.H){df C}(h:yY M (.imap df) C):yY Ml (.imap df) {C with ver:=0}:=by
 obtain⟨B,es,ck,h1,h2,h3,h4,h5⟩:=h;exact⟨B,es,ck,h1,h2,by simp_all,h4,h5⟩
theorem yVe {j l ids c cs}(h:sA (some j::l) ids (c::cs)=true):∃id,c=.ptr id 0∧ids[j]? =some id∧sA l ids cs=true:=by
 cases c with
 |ptr id off=>
  cases off with
  |zero=>
   have h:((match ids[j]? with|some k=>Nat.beq id k|none=>false)&&sA l ids cs)=true:=h;rw[Bool.and_eq_true] at h;have h1:=h.1;split at h1;all_goals simp_all
  |succ _=>cases h
 |_=>cases h
theorem EC {M}(ok:Ok M){aq}(ho:nS M aq){κ}:∀{l cs d n ids},qa M.h l cs=some d→sA (l.map XC.lnk) ids cs=true→(∀id∈Ke l cs,id∉aq)→
  (jS l cs).length=(iB l d n).2.length∧(∀(i:Nat) id o,(jS l cs)[i]? =some id→(iB l d n).2[i]? =some o→∃C,W1 M id o C)∧
   ((∀i id C,(jS l cs)[i]? =some id→M.κ id=some C→κ (n+i)=some {C with ver:=0})→(∀j id,ids[j]? =some id→κ j=M.κ id)→zN (sE M aq κ) cs (iB l d n).1)
 |[],[],_,n,_,_,_,_=>⟨rfl,nofun,fun _ _=>trivial⟩
 |x::l,c::cs,d,n,ids,h,hl,hn=>by
  unfold qa at h;split at h
  ·rename_i y ys h1 h2;cases h;cases x with
   |p p=>
    have o9:∀id∈vL c,id∉aq:=fun id an=>hn id (List.mem_append_left _ an)
    obtain⟨k1,k2,k3⟩:=EC ok ho (κ:=κ) (n:=n) (ids:=ids) h2 hl (fun id an=>hn id (List.mem_append_right _ an));exact⟨k1,k2,fun hκ hj=>⟨fun v Ml lo _ hv=>vPu ok ho o9 h1 v Ml lo hv,k3 hκ hj⟩⟩
   |own t=>
    cases c with
    |osl id r=>
     cases r with
     |some _=>cases h1
     |none=>
      have h1:(match M.h id with|some (.arr true s xs)=>iu s t xs|_=>none)=some y:=h1;split at h1
      ·rename_i s xs an;obtain⟨e,hx⟩:=lq h1;subst e;subst hx;obtain⟨C,hC,hO⟩:=ok.obj id _ an;obtain⟨k1,k2,k3⟩:=EC ok ho (κ:=κ) (n:=n+1) (ids:=ids) h2 hl hn;refine⟨by simp only[jS,iB,List.length_cons,k1],fun i jd o hi lQ=>?_,fun hκ hj=>⟨fun v Ml lo hk hv=>?_,k3 (fun i jd D hi hD=>?_) hj⟩⟩
       ·cases i with
        |zero=>
         cases hi;cases lQ;refine⟨C,hC,fun Ml e1 e2=>?_,rfl,_,an,rfl⟩;obtain⟨q1,q2,q3,q4⟩:=hO;refine⟨q1,q2,q3,?_⟩;rw[e1,e2];exact q4
        |succ i=>exact k2 i jd o hi lQ
       ·obtain⟨D,hD,hS⟩:=hv;rw[hC] at hD;cases hD;refine⟨{C with ver:=0},by rw[hk];exact hκ 0 id C rfl hC,?_⟩;rw[lo.H];exact hS
       ·have:=hκ (i+1) jd D hi hD;rw[←this];congr 1;omega
      ·cases h1
    |_=>cases h1
   |mat=>
    cases c with
    |osl id r=>
     cases r with
     |some _=>cases h1
     |none=>
      have h1:(match M.h id with|some (.mat _ xs)=>some xs|_=>none)=some y:=h1;split at h1
      ·rename_i ver xs an;cases h1;obtain⟨C,hC,hO⟩:=ok.obj id _ an;obtain⟨k1,k2,k3⟩:=EC ok ho (κ:=κ) (n:=n+1) (ids:=ids) h2 hl hn;refine⟨by simp only[jS,iB,List.length_cons,k1],fun i jd o hi lQ=>?_,fun hκ hj=>⟨fun v Ml lo hk hv=>?_,k3 (fun i jd D hi hD=>?_) hj⟩⟩
       ·cases i with
        |zero=>
         cases hi;cases lQ;refine⟨C,hC,fun Ml e1 e2=>?_,rfl,_,an,rfl⟩;obtain⟨q1,q2⟩:=hO;refine⟨rfl,?_⟩;rw[e1];exact q2
        |succ i=>exact k2 i jd o hi lQ
       ·obtain⟨D,hD,hS⟩:=hv;rw[hC] at hD;cases hD;refine⟨{C with ver:=0},by rw[hk];exact hκ 0 id C rfl hC,?_⟩;show jB Ml.H {C with ver:=0} 0 C.len v;rw[lo.H];exact hS
       ·have:=hκ (i+1) jd D hi hD;rw[←this];congr 1;omega
      ·cases h1
    |_=>cases h1
   |map=>
    cases c with
    |map id=>
     have h1:(match M.h id with|some (.imap df)=>some df|_=>none)=some y:=h1;split at h1
     ·rename_i df an;cases h1;obtain⟨C,hC,hO⟩:=ok.obj id _ an;obtain⟨k1,k2,k3⟩:=EC ok ho (κ:=κ) (n:=n+1) (ids:=ids) h2 hl hn;refine⟨by simp only[jS,iB,List.length_cons,k1],fun i jd o hi lQ=>?_,fun hκ hj=>⟨fun v Ml lo hk hv=>?_,k3 (fun i jd D hi hD=>?_) hj⟩⟩
      ·cases i with
       |zero=>
        cases hi;cases lQ;exact⟨C,hC,fun Ml e1 e2=>vWm e1 hO,rfl,_,an,rfl⟩
       |succ i=>exact k2 i jd o hi lQ
      ·obtain⟨D,B,hD,hB,e⟩:=hv;rw[hC] at hD;cases hD;exact⟨{C with ver:=0},B,by rw[hk];exact hκ 0 id C rfl hC,hB,e⟩
      ·have:=hκ (i+1) jd D hi hD;rw[←this];congr 1;omega
     ·cases h1
    |_=>cases h1
   |link j=>
    obtain⟨id,rfl,an,dO⟩:=yVe hl;obtain⟨k1,k2,k3⟩:=EC ok ho (κ:=κ) (n:=n) (ids:=ids) h2 dO hn;refine⟨k1,k2,fun hκ hj=>⟨fun v Ml lo hk hv=>?_,k3 hκ hj⟩⟩;obtain⟨C,B,hC,hB,e⟩:=hv;exact⟨C,B,by rw[hk,hj j id an];exact hC,hB,e⟩
  ·cases h
 |[],_::_,_,_,_,h,_,_=>by cases h
 |_::_,[],_,_,_,h,_,_=>by cases h
theorem Kk {M Ml aq}(lo:sD M aq Ml):∀{cs aS vs},zN (sE M aq Ml.κ) cs aS→zN (zX M) cs vs→zN (zX Ml) aS vs
 |[],[],[],_,_=>trivial
 |_::_,_::_,_::_,h,k=>⟨h.1 _ _ lo rfl k.1,Kk lo h.2 k.2⟩
def ED (aq:List Nat)(bs:List (Bool×Nat)):Prop:=∀b∈bs,(b.1=true→b.2∈aq)∧(b.1=false→b.2∉aq)
theorem W2 {M}(ok:Ok M){aq}(ho:nS M aq){io id cells}(h:Ez M.h io id=some cells)(hm:(io=true→id∈aq)∧(io=false→id∉aq)):
  ∃C B,M.κ id=some C∧C.blk=some B∧∀Ml bH,sD M aq Ml→zN (sE M aq Ml.κ) cells bH→yY Ml (bif io then .box true bH else .robox bH) C:=by
 unfold Ez at h;split at h
 ·rename_i cs an;cases h;obtain⟨C,hC,B,vals,e,h1,h2,h3,h4,h5⟩:=ok.obj id _ an;exact⟨C,B,hC,h1,fun Ml bH lo ht=>⟨B,vals,e,h1,h2,by rw[lo.H];exact h3,Kk lo ht h4,by simp⟩⟩
 ·rename_i own cs an;cases h;obtain⟨C,hC,B,vals,e,h1,h2,h3,h4,h5⟩:=ok.obj id _ an;refine⟨C,B,hC,h1,fun Ml bH lo ht=>⟨B,vals,e,h1,h2,by rw[lo.H];exact h3,Kk lo ht h4,?_⟩⟩;rw[lo.F];cases own with
  |false=>exact ur ok ho (ok.GF B (h5 rfl))
  |true=>
   refine⟨by grind,fun hd=>?_⟩;obtain⟨jd,hj,D,hD,hb⟩:=hd;obtain⟨q,q1,q2⟩:=ho jd hj;exact ok.disj jd id q _ D C B (by grind) q1 an q2 rfl hD hC hb (by simp[qC.fp,h1])
 ·rename_i cs an;cases h;obtain⟨C,hC,B,vals,e,h1,h2,h3,h4,h5⟩:=ok.obj id _ an;refine⟨C,B,hC,h1,fun Ml bH lo ht=>⟨B,vals,e,h1,h2,by rw[lo.H];exact h3,Kk lo ht h4,?_⟩⟩;rw[lo.F];exact ur ok ho h5
 ·cases h
def W3 (M:zK)(aq:List Nat)(bs:List (Bool×Nat))(mk:List qA→List Obj)(cs:List qA):Prop:=∀(Ml:zK) (aS:List qA),sD M aq Ml→zN (sE M aq Ml.κ) cs aS→
 zN (fun(b:Bool×Nat) o=>∃C B,M.κ b.2=some C∧C.blk=some B∧yY Ml o C∧o.owned=b.1) bs (mk aS)
theorem Pe {M}(ok:Ok M){aq}(ho:nS M aq):∀{ls ids cs bs},kb M.h ls ids=some (cs,bs)→ED aq bs→
  cs.length=(ls.flatMap (·.2)).length∧bs=(ls.map (·.1)).zip ids∧ids.length=ls.length∧W3 M aq bs (Kf ls) cs
 |[],[],cs,bs,h,_=>by cases h;exact⟨rfl,rfl,rfl,fun _ _ _ _=>trivial⟩
 |(io,l)::ls,id::ids,cs,bs,h,hf=>by
  unfold kb at h;split at h
  ·rename_i cells rest Bx h1 h2;obtain⟨hl,h⟩:=wM h;cases h;have hl:cells.length=l.length:=Nat.eq_of_beq_eq_true hl;obtain⟨C,B,hC,hB,hO⟩:=W2 ok ho h1 (hf _ (List.mem_cons_self ..));obtain⟨k1,k2,k3,k4⟩:=Pe ok ho h2 fun b hb=>hf b (by grind)
   refine⟨by simp_all,by simp_all,by simp[k3],fun Ml aS lo ht=>?_⟩;have oY:=zN.take l.length ht;have nO:=zN.drop l.length ht;rw[←hl,List.drop_left] at nO;refine⟨⟨C,B,hC,hB,?_,?_⟩,?_⟩
   ·simp_all
   ·cases io<;>rfl
   ·rw[←hl];exact k4 Ml _ lo nO
  ·cases h
theorem Kl {h}:∀{ls ids cs bs},kb h ls ids=some (cs,bs)→bs.length=ls.length
 |[],[],_,_,e=>by cases e;rfl
 |(io,l)::ls,id::ids,cs,bs,e=>by
  unfold kb at e;split at e
  ·rename_i cells rest Bx h1 h2;obtain⟨_,e⟩:=wM e;cases e;simp[Kl h2]
  ·cases e
theorem vS6 {h}{s:AX}{a cs bs}(e:s.get h a=some (cs,bs)):bs.length=s.nb:=by
 unfold AX.get at e;split at e
 ·cases e;rfl
 ·obtain⟨_,e⟩:=wM e;cases e;rfl
 ·rw[Kl e];rfl
 ·obtain⟨_,e⟩:=wM e;rw[Kl e];rfl
 ·split at e
  ·rw[Kl e];simp[Ey,AX.nb]
  ·cases e
 ·cases e
theorem W4 {h}:∀{n id ids},Kb h n id=some ids→ids.head? =some id∧ids.length=n
 |1,_,_,e=>by cases e;simp
 |n+2,id,ids,e=>by
  unfold Kb at e;split at e
  ·split at e
   ·split at e
    ·rename_i l hl;cases e;exact⟨rfl,by simp[(W4 hl).2]⟩
    ·cases e
   ·cases e
  ·cases e
theorem vWk {M}(ok:Ok M){aq}(ho:nS M aq){s:AX}{a v cs bs}(hv:zV M a v)(h:s.get M.h a=some (cs,bs))(hf:ED aq bs):
  cs.length=s.cells.length∧W3 M aq bs (fun aS=>s.boxes aS) cs∧∀Ml aS n,sD M aq Ml→zN (sE M aq Ml.κ) cs aS→(∀i b,bs[i]? =some b→Ml.κ (n+i)=M.κ b.2)→zV Ml (s.mk n aS) v:=by
 unfold AX.get at h;split at h
 ·cases h;refine⟨rfl,fun Ml aS lo ht=>trivial,fun Ml aS n lo ht _=>?_⟩
  match aS,ht with
  |[c'],ht=>exact ht.1 v Ml lo rfl hv
 ·rename_i l xs;obtain⟨hl,h'⟩:=wM h;cases h';have hl:cs.length=l.length:=Nat.eq_of_beq_eq_true hl;obtain⟨vs,rfl,hx⟩:=hv;exact⟨by simp[AX.cells,hl],fun Ml aS lo ht=>trivial,fun Ml aS n lo ht _=>⟨vs,rfl,Kk lo ht hx⟩⟩
 ·rename_i io l id;obtain⟨k1,k2,k3,k4⟩:=Pe ok ho h hf;refine⟨by rw[k1];simp[AX.cells],k4,fun Ml aS n lo ht hκ=>?_⟩;obtain⟨C,B,hC,hB,e⟩:=hv;exact⟨C,B,by have:=hκ 0 (io,id) (by rw[k2];rfl);simp_all,hB,e⟩
 ·rename_i f bA g ids;obtain⟨hg,h'⟩:=wM h;have Ws:f=g:=Nat.eq_of_beq_eq_true hg;subst Ws;obtain⟨k1,k2,k3,k4⟩:=Pe ok ho h' hf;refine⟨by rw[k1];rfl,k4,fun Ml aS n lo ht hκ=>?_⟩;obtain⟨cv,rfl,hc⟩:=hv;refine⟨cv,rfl,?_⟩;have l2:=hc.length;refine zN.of_get (by simp_all) fun i h1 h2=>?_
  have hi:i<ids.length:=by omega
  obtain⟨C,B,q1,q2,q3⟩:=hc.get i hi h2;have hb:bs[i]? =some ((bA.map (·.1))[i]'(by simp at h1⊢;omega),ids[i]):=by
   grind
  grind
 ·rename_i ls id;split at h
  ·rename_i ids kE;obtain⟨k1,k2,k3,k4⟩:=Pe ok ho h hf;refine⟨by rw[k1];simp[AX.cells,Ey,List.flatMap_map],k4,fun Ml aS n lo ht hκ=>?_⟩;obtain⟨C,B,hC,hB,e⟩:=hv;have hb:bs[0]? =some (true,id):=by
    obtain⟨h1,h2⟩:=W4 kE;rw[k2];cases ids with
    |nil=>cases h1
    |cons i ids=>
     cases h1;cases ls with
     |nil=>cases k3
     |cons l ls=>rfl
   exact⟨C,B,by grind,hB,e⟩
  ·cases h
 ·cases h
theorem yOl {M}(ok:Ok M){aq}(ho:nS M aq):∀{l as vs cs bs},zN (zV M) as vs→kL M.h l as=some (cs,bs)→ED aq bs→
  cs.length=(l.flatMap AX.cells).length∧(∀n,W3 M aq bs (fun aS=>(By l aS n).2) cs)∧
   ∀Ml aS n,sD M aq Ml→zN (sE M aq Ml.κ) cs aS→(∀i b,bs[i]? =some b→Ml.κ (n+i)=M.κ b.2)→zN (zV Ml) (By l aS n).1 vs
 |[],[],[],cs,bs,_,h,_=>by cases h;exact⟨rfl,fun _ _ _ _ _=>trivial,fun _ _ _ _ _ _=>trivial⟩
 |s::l,a::as,v::vs,cs,bs,hv,h,hf=>by
  unfold kL at h;split at h
  ·rename_i mQ bs1 cs2 bs2 h1 h2;cases h;have hf1:ED aq bs1:=fun b hb=>hf b (by grind)
   have hf2:ED aq bs2:=fun b hb=>hf b (by grind)
   obtain⟨k1,k2,k3⟩:=vWk ok ho hv.1 h1 hf1;obtain⟨k4,k5,k6⟩:=yOl ok ho hv.2 h2 hf2;have cut:∀{κ:Nat→Option qC} {aS:List qA},zN (sE M aq κ) (mQ++cs2) aS→zN (sE M aq κ) mQ (aS.take s.cells.length)∧zN (sE M aq κ) cs2 (aS.drop s.cells.length):=by
    intro κ aS ht;have oY:=zN.take s.cells.length ht;have nO:=zN.drop s.cells.length ht;simp_all
   refine⟨by simp_all,fun n Ml aS lo ht=>?_,fun Ml aS n lo ht hκ=>?_⟩
   ·obtain⟨oY,nO⟩:=cut ht;exact(k2 Ml _ lo oY).append (k5 _ Ml _ lo nO)
   ·obtain⟨oY,nO⟩:=cut ht;have hlen:=(k2 Ml _ lo oY).length;refine⟨k3 Ml _ n lo oY fun i b hb=>hκ i b ?_,k6 Ml _ _ lo nO fun i b hb=>?_⟩
    ·grind
    ·have:=hκ (bs1.length+i) b (by grind);grind
  ·cases h
def κX (M : zK) (bs : List (Bool × Nat)) (rows : List Nat) : Nat → Option qC := fun n => bif Nat.ble wN n then (match rows[n-wN]? with
  |some id=>(M.κ id).map fun C=>{C with ver:=0}
  |none=>none)
 else (match bs[n]? with
  |some b=>M.κ b.2
  |none=>none)
theorem BA:∀{bs} {i id:Nat},bs[i]? =some (true,id)→id∈vQ bs
 |(true,a)::bs,0,id,h=>by cases h;exact List.mem_cons_self ..
 |(true,a)::bs,i+1,id,h=>List.mem_cons_of_mem _ (BA (bs:=bs) (i:=i) h)
 |(false,a)::bs,i+1,id,h=>BA (bs:=bs) (i:=i) h
theorem W5:∀{bs} {i j id:Nat},(vQ bs).Nodup→bs[i]? =some (true,id)→bs[j]? =some (true,id)→i=j
 |(true,a)::bs,0,0,id,_,_,_=>rfl
 |(true,a)::bs,0,j+1,id,hn,h,k=>by
  cases h;exact absurd (BA (bs:=bs) (i:=j) k) (List.nodup_cons.1 hn).1
 |(true,a)::bs,i+1,0,id,hn,h,k=>by
  cases k;exact absurd (BA (bs:=bs) (i:=i) h) (List.nodup_cons.1 hn).1
 |(true,a)::bs,i+1,j+1,id,hn,h,k=>by rw[W5 (bs:=bs) (List.nodup_cons.1 hn).2 h k]
 |(false,a)::bs,i+1,j+1,id,hn,h,k=>by rw[W5 (bs:=bs) hn h k]
theorem W6 {M}(ok:Ok M){l as vs cs bs}{d:XD l}(hv:zN (zV M) as vs)(hg:kL M.h l as=some (cs,bs))(hd:qa M.h (l.flatMap AX.cells) cs=some d)
  (dM:(vQ bs++jS (l.flatMap AX.cells) cs).Nodup) (sm:∀id∈Ke (l.flatMap AX.cells) cs,id∉vQ bs++jS (l.flatMap AX.cells) cs) (hro:∀id∈Pd bs,id∉vQ bs++jS (l.flatMap AX.cells) cs) (hlen:bs.length≤wN) (uu:sA ((l.flatMap AX.cells).map XC.lnk) (bs.map (·.2)) cs=true) (ho:nS M (vQ bs++jS (l.flatMap AX.cells) cs)):
  ∃Ml:zK,sD M (vQ bs++jS (l.flatMap AX.cells) cs) Ml∧Ml.h=(kM l d).2∧Ok Ml∧(∀b,qN Ml b→lz M (vQ bs++jS (l.flatMap AX.cells) cs) b)∧zN (zV Ml) (kM l d).1 vs∧Ml.κ=κX M bs (jS (l.flatMap AX.cells) cs):=by
 generalize iC:vQ bs++jS (l.flatMap AX.cells) cs=aq at*
 have xx:ED aq bs:=by
  intro b hb;obtain⟨i,hi,rfl⟩:=List.getElem_of_mem hb;have Jn:bs[i]? =some bs[i]:=List.getElem?_eq_getElem hi;refine⟨fun e=>?_,fun e=>?_⟩
  ·rw[←iC];have:bs[i]? =some (true,bs[i].2):=by rw[Jn,←e]
   exact List.mem_append_left _ (BA this)
  ·apply hro;clear hg hd dM sm hro hlen ho iC hv uu
   induction bs generalizing i with
   |nil=>exact absurd hi (Nat.not_lt_zero i)
   |cons c bs ih=>
    obtain⟨io,a⟩:=c;cases i with
    |zero=>cases io<;>first|exact List.mem_cons_self .. |cases e
    |succ i=>cases io<;>first|exact List.mem_cons_of_mem _ (by grind)|exact ih i (by simpa using hi) (List.getElem_mem _) (List.getElem?_eq_getElem _) e
 let κ:=κX M bs (jS (l.flatMap AX.cells) cs);obtain⟨k1,k2,k3⟩:=EC ok ho (κ:=κ) (n:=wN) (ids:=bs.map (·.2)) hd uu sm;have ht : zN (sE M aq κ) cs (iB (l.flatMap AX.cells) d wN).1 := k3 (fun i id C hi hC=>by
  show κX M bs _ (wN+i)=_;unfold κX;rw[Nat.ble_eq_true_of_le (Nat.le_add_right _ _),show wN+i-wN=i by omega,hi];simp[hC]) fun j id hj=>by
  rw[List.getElem?_map] at hj;obtain⟨b,hb,rfl⟩:=Option.map_eq_some_iff.1 hj;have hi:j<bs.length:=by grind
  show κX M bs _ j=_;unfold κX;have:Nat.ble wN j=false:=by
   cases h:Nat.ble wN j with
   |false=>rfl
   |true=>have:=Nat.le_of_ble_eq_true h;omega
  rw[this,hb];rfl
 obtain⟨a1,a2,a3⟩:=yOl ok ho hv hg xx;let Ml:zK:={κ:=κ,F:=fun b=>b<M.H.size∧¬lz M aq b,G:=M.G,h:=(kM l d).2,H:=M.H};have lo:sD M aq Ml:=⟨rfl,rfl,rfl⟩;have BB:=a2 0 Ml _ lo ht;have hκbox:∀i b,bs[i]? =some b→Ml.κ (0+i)=M.κ b.2:=fun i b hb=>by
  have hi:i<bs.length:=by grind
  show κX M bs _ (0+i)=_;unfold κX;have:Nat.ble wN (0+i)=false:=by
   cases h:Nat.ble wN (0+i) with
   |false=>rfl
   |true=>have:=Nat.le_of_ble_eq_true h;omega
  rw[this,Nat.zero_add,hb];rfl
 have mf:∀id o,Ml.h id=some o→∃jd C,Ml.κ id=some C∧yY Ml o C∧(o.owned=true→jd∈aq∧∃D,M.κ jd=some D∧D.fp=C.fp)∧
   ((Nat.ble wN id=true∧(jS (l.flatMap AX.cells) cs)[id-wN]? =some jd)∨(Nat.ble wN id=false∧∃io,bs[id]? =some (io,jd)∧o.owned=io)):=by
  intro id o h;have h:Kg (By l (iB (l.flatMap AX.cells) d wN).1 0).2 (iB (l.flatMap AX.cells) d wN).2 id=some o:=h;unfold Kg at h;cases hb:Nat.ble wN id with
  |true=>
   rw[hb] at h;have h:(iB (l.flatMap AX.cells) d wN).2[id-wN]? =some o:=h;have hi:=(List.getElem?_eq_some_iff.1 h).1;have hj:(jS (l.flatMap AX.cells) cs)[id-wN]? =some ((jS (l.flatMap AX.cells) cs)[id-wN]'(by omega)):=by simp
   obtain⟨C,hR⟩:=k2 _ _ _ hj h;refine⟨_,{C with ver:=0},?_,hR.rep Ml rfl rfl,fun _=>⟨?_,C,hR.κ,rfl⟩,.inl ⟨rfl,hj⟩⟩
   ·show κX M bs _ id=_;unfold κX;rw[hb,hj];simp[hR.κ]
   ·rw[←iC];exact by simp
  |false=>
   rw[hb] at h;have hi:=(List.getElem?_eq_some_iff.1 h).1;have W7:id<bs.length:=by rw[BB.length];exact hi
   have hq:=BB.get id W7 hi;rw[List.getElem?_eq_getElem hi] at h;cases h;obtain⟨C,B,q1,q2,q3,q4⟩:=hq;have Jn:bs[id]? =some bs[id]:=List.getElem?_eq_getElem W7;refine⟨bs[id].2,C,?_,q3,fun e=>⟨(xx _ (List.getElem_mem W7)).1 (by rw[←q4];exact e),C,q1,rfl⟩,by grind⟩;have:=hκbox id _ Jn;rw[Nat.zero_add] at this;rw[this];exact q1
 have aN:∀b,qN Ml b→lz M aq b:=fun b ⟨id,o,C,h1,h2,h3,h4⟩=>by
  obtain⟨jd,C',q1,_,q3,_⟩:=mf id o h1;rw[h3] at q1;cases q1;obtain⟨p1,D,p2,p3⟩:=q3 h2;exact⟨jd,p1,D,p2,by rw[p3];exact h4⟩
 refine⟨Ml,lo,rfl,⟨fun id o h=>?_,fun id h=>?_,fun i j oi oj Ci Cj b mM h1 h2 h3 h4 h5 h6 h7 h8=>?_,fun b hb=>⟨fun hf=>hf.2 (aN b hb),(ok.own b ((aN b hb).own ho)).2⟩,fun b hb=>ur ok ho (ok.GF b hb),fun b hb=>hb.1⟩,aN,a3 Ml _ 0 lo ht hκbox,rfl⟩
 ·obtain⟨jd,C,q1,q2,_⟩:=mf id o h;exact⟨C,q1,q2⟩
 ·have h:Kg (By l (iB (l.flatMap AX.cells) d wN).1 0).2 (iB (l.flatMap AX.cells) d wN).2 id=none:=h;unfold Kg at h;show κX M bs _ id=none;unfold κX;cases hb:Nat.ble wN id with
  |true=>
   rw[hb] at h;have h:(iB (l.flatMap AX.cells) d wN).2[id-wN]? =none:=h;rw[List.getElem?_eq_none_iff,←k1] at h;rw[List.getElem?_eq_none h];rfl
  |false=>
   rw[hb] at h;have h:(By l (iB (l.flatMap AX.cells) d wN).1 0).2[id]? =none:=h;rw[List.getElem?_eq_none_iff,←BB.length] at h;rw[List.getElem?_eq_none h];rfl
 ·obtain⟨ji,Ci',p1,_,p3,p4⟩:=mf i oi h1;obtain⟨jj,Cj',q1,_,q3,q4⟩:=mf j oj h2;rw[h5] at p1;cases p1;rw[h6] at q1;cases q1;obtain⟨p5,Di,p6,p7⟩:=p3 h3;obtain⟨q5,Dj,q6,q7⟩:=q3 h4;obtain⟨oi',r1,r2⟩:=ho ji p5;obtain⟨oj',r3,r4⟩:=ho jj q5;refine ok.disj ji jj oi' oj' Di Dj b (fun e=>?_) r1 r3 r2 r4 p6 q6 (by rw[p7];exact h7) (by rw[q7];exact h8);subst e;rw[←iC] at dM;obtain⟨n1,n2,n3⟩:=List.nodup_append.1 dM;rcases p4 with⟨p8,p9⟩|⟨p8,io,p9,uv⟩<;>rcases q4 with⟨q8,q9⟩|⟨q8,io',q9,Pf⟩
  ·have:=(List.getElem?_inj (by grind) n2).1 (p9.trans q9.symm);have e1:=Nat.le_of_ble_eq_true p8;have e2:=Nat.le_of_ble_eq_true q8;exact mM (by omega)
  ·rw[h4] at Pf;subst Pf;exact n3 _ (BA q9) _ (List.mem_of_getElem? p9) rfl
  ·rw[h3] at uv;subst uv;exact n3 _ (BA p9) _ (List.mem_of_getElem? q9) rfl
  ·rw[h3] at uv;rw[h4] at Pf;subst uv;subst Pf;exact mM (W5 n1 p9 q9)
theorem xy {n}:∀{ids h},qH h (qb ids) n=if n∈ids then some .gone else h n
 |[],_=>by rfl
 |id::ids,h=>by
  show qH (yL h id .gone) (qb ids) n=_;rw[xy (ids:=ids)];by_cases e:n=id
  ·subst e;simp[yR]
  ·rw[yV _ _ e];simp[e]
def zK.overX (M L:zK)(aq:List Nat):zK:={κ:=M.κ,F:=fun b=>M.F b∨L.G b,G:=L.G,h:=qH M.h (qb aq),H:=L.H}
theorem zK.overX_ok {M Ml L aq}(ok:Ok M)(iT:Ok L)(lo:sD M aq Ml)(ho:nS M aq)(hand:∀b,qN Ml b→lz M aq b)(g:ka Ml L):
  Ok (M.overX L aq)∧yO M (M.overX L aq)∧(∀b,qN (M.overX L aq) b→qN M b∧¬lz M aq b):=by
 have cU:∀b,b<M.H.size→¬lz M aq b→L.H[b]? =M.H[b]? :=fun b hb hn=>by rw[g.same b (by rw[lo.F];simp_all),lo.H]
 have dK:M.H.size≤L.H.size:=by have:=g.size;rw[lo.H] at this;exact this
 have hG:∀b,L.G b→b<M.H.size→M.G b∨lz M aq b:=fun b hb hs=>by
  rcases g.Gb b hb (by rw[lo.H];exact hs) with h|h
  ·rw[lo.G] at h;simp_all
  simp_all
 have hsF:∀b,M.F b→L.H[b]? =M.H[b]? :=fun b h=>cU b (ur ok ho h).1 (ur ok ho h).2
 have x:yS M (M.overX L aq):=⟨fun id C h=>⟨C,h,C.le_refl⟩,fun b h=>.inl h,fun b h=>g.G b (by rw[lo.G];exact h),fun b h=>hsF b h,fun b h=>hsF b (ok.GF b h),fun b h=>by
  have:=g.bsz b (by rw[lo.H];exact h);rw[lo.H] at this;exact this⟩
 have mf:∀id o,(M.overX L aq).h id=some o→o.owned=true→id∉aq∧M.h id=some o:=fun id o h iS=>by
  have h:qH M.h (qb aq) id=some o:=h;rw[xy] at h;by_cases hm:id∈aq
  ·rw[if_pos hm] at h;cases h;cases iS
  simp_all
 have W8:∀id o C,id∉aq→M.h id=some o→o.owned=true→M.κ id=some C→∀b∈C.fp,¬lz M aq b:=fun id o C hm h iS hC b hb ⟨jd,hj,D,hD,Wx⟩=>by
  obtain⟨q,q1,q2⟩:=ho jd hj;exact ok.disj id jd o q C D b (by grind) h q1 iS q2 hC hD hb Wx
 have aN:∀b,qN (M.overX L aq) b→qN M b∧¬lz M aq b:=fun b ⟨id,o,C,h1,h2,h3,h4⟩=>by
  obtain⟨k1,k2⟩:=mf id o h1 h2;exact⟨⟨id,o,C,k2,h2,h3,h4⟩,W8 id o C k1 k2 h2 h3 b h4⟩
 refine⟨⟨fun id o h=>?_,fun id h=>?_,fun i j oi oj Ci Cj b mM h1 h2 h3 h4 h5 h6 h7 h8=>?_,fun b h=>⟨fun hf=>?_,?_⟩,fun b h=>.inr h,fun b h=>?_⟩,⟨x,dK,fun b hb hn=>cU b hb fun hh=>hn (hh.own ho),by grind,fun b h hs=>?_,fun b h hs=>?_⟩,aN⟩
 ·have h:qH M.h (qb aq) id=some o:=h;rw[xy] at h;by_cases hm:id∈aq
  ·rw[if_pos hm] at h;cases h;obtain⟨q,q1,q2⟩:=ho id hm;obtain⟨C,hC,_⟩:=ok.obj id q q1;exact⟨C,hC,trivial⟩
  ·rw[if_neg hm] at h;obtain⟨C,hC,hO⟩:=ok.obj id o h;exact⟨C,hC,hO.ext x fun iS b hb=>cU b (ok.own b ⟨id,o,C,h,iS,hC,hb⟩).2 (by grind)⟩
 ·have h:qH M.h (qb aq) id=none:=h;rw[xy] at h;by_cases hm:id∈aq
  ·simp_all
  ·rw[if_neg hm] at h;exact ok.non id h
 ·exact ok.disj i j oi oj Ci Cj b mM (mf i oi h1 h3).2 (by grind) h3 h4 h5 h6 h7 h8
 ·obtain⟨k1,k2⟩:=aN b h;have:=ok.own b k1;rcases hf with hf|hf
  ·simp_all
  ·rcases hG b hf this.2 with h|h
   ·exact this.1 (ok.GF b h)
   simp_all
 ·have h1:=(ok.own b (aN b h).1).2;show b<L.H.size;omega
 ·show b<L.H.size;rcases h with h|h
  ·have:=ok.Flt b h;omega
  ·exact iT.Flt b (iT.GF b h)
 ·rcases hG b h hs with h|h
  ·simp_all
  ·exact .inr (h.own ho)
 ·rcases h with h|h
  ·simp_all
  ·rcases hG b h hs with h|h
   ·exact .inl (ok.GF b h)
   ·exact .inr (h.own ho)
def qC.bare (C:qC):qC:={C with ver:=C.ver+1,rows:=[]}
def zK.revive (M:zK)(id:Nat)(C:qC)(cs:List qA):zK:={M with κ:=κset M.κ id C.bare,h:=yL M.h id (.box true cs)}
theorem zK.revive_ok {M}(ok:Ok M){id C B vals e cs}(hC:M.κ id=some C)(hB:C.blk=some B)(hH:M.H[B]? =some (.cells vals e (0,0)))(hc:zN (zX M) cs vals.toList)
  (h1:¬qN M B) (h2:¬M.F B):Ok (M.revive id C cs)∧yS M (M.revive id C cs)∧(∀b,qN (M.revive id C cs) b→qN M b∨b=B):=by
 have hκ:(M.revive id C cs).κ id=some C.bare:=κset_same _ _ _;have x:yS M (M.revive id C cs):=⟨fun jd D h=>by
  by_cases e':jd=id
  ·subst e';rw[hC] at h;cases h;exact⟨_,hκ,rfl,rfl,rfl,Nat.le_succ _,fun h=>absurd h (by simp[qC.bare])⟩
  ·exact⟨D,by show κset M.κ id _ jd=_;rw[κset_ne _ _ e'];exact h,D.le_refl⟩,fun _ h=>h,fun _ h=>h,fun _ _=>rfl,fun _ _=>rfl,fun _ _=>rfl⟩
 have rS:C.bare.fp=[B]:=by simp[qC.fp,qC.bare,hB]
 have Bf:(M.revive id C cs).h id=some (.box true cs):=yR _ _ _;refine⟨Ok.build ok x (fun jd=>jd=id) (fun jd h=>yV _ _ h) (fun jd h=>κset_ne _ _ h) (fun _ _ _ _ _ _ _ _ _=>rfl) (fun jd o' D k1 k2 k3 k4 b bg=>(ok.own b ⟨jd,o',D,k2,k3,k4,bg⟩).1) (Nat.le_refl _)
  (fun jd o' e' h=>?_) (fun jd e' h=>?_) (fun jd o' D b e' k1 k2 k3 k4=>?_) ok.GF ok.Flt,x,fun b bg=>?_⟩
 ·subst e';rw[Bf] at h;cases h;exact⟨_,hκ,B,vals,e,hB,rfl,hH,hc.mono fun _ _ h=>h.ext x,by simp⟩
 ·simp_all
 ·subst e';rw[hκ] at k3;cases k3;rw[rS,List.mem_singleton] at k4;subst k4;refine⟨fun j oj Cj hj q1 q2 q3 q4=>h1 ⟨j,oj,Cj,?_,q2,?_,q4⟩,h2,(Array.getElem?_eq_some_iff.1 hH).1⟩
  ·rw[←q1];exact(yV _ _ hj).symm
  ·rw[←q3];exact(κset_ne _ _ hj).symm
 ·obtain⟨jd,o',D,k1,k2,k3,k4⟩:=bg;by_cases e':jd=id
  ·simp_all
  ·exact .inl ⟨jd,o',D,by rw[←k1];exact(yV _ _ e').symm,k2,by rw[←k3];exact(κset_ne _ _ e').symm,k4⟩
structure yKt (M:zK) (id:Nat) (cs:List qA) (B:Nat):Prop where
 at':∃C,M.κ id=some C∧C.blk=some B
 rep:∃vals e,M.H[B]? =some (.cells vals e (0,0))∧zN (zX M) cs vals.toList
 own:¬qN M B
 F:¬M.F B
def pb (R:Nat→List qA→Nat→Prop):List Nat→List (List qA)→List Nat→Prop
 |[],[],[]=>True
 |a::l,b::m,c::n=>R a b c∧pb R l m n
 |_,_,_=>False
theorem pb.mono {R S}:∀{l m n},(∀a b c,c∈n→R a b c→S a b c)→pb R l m n→pb S l m n
 |[],[],[],_,_=>trivial
 |_::_,_::_,_::_,h,k=>⟨h _ _ _ (by simp) k.1,pb.mono (by grind) k.2⟩
theorem yQ1:∀{ids css Bs M},Ok M→pb (yKt M) ids css Bs→Bs.Nodup→
  ∃M':zK,M'.H=M.H∧M'.G=M.G∧M'.F=M.F∧M'.h=qH M.h (EB ids css)∧Ok M'∧yS M M'∧(∀b,qN M' b→qN M b∨b∈Bs)
 |[],[],[],M,ok,_,_=>⟨M,rfl,rfl,rfl,rfl,ok,.refl M,by simp⟩
 |id::ids,cs::css,B::Bs,M,ok,h,hn=>by
  obtain⟨C,hC,hB⟩:=h.1.at';obtain⟨vals,e,hH,hc⟩:=h.1.rep;obtain⟨k1,k2,k3⟩:=zK.revive_ok ok hC hB hH hc h.1.own h.1.F;obtain⟨n1,n2⟩:=List.nodup_cons.1 hn;obtain ⟨M', a1, a2, a3, a4, a5, a6, a7⟩ := yQ1 (M := M.revive id C cs) k1 (pb.mono (fun a b c hcB hb=>by
   refine⟨?_,?_,fun ho=>?_,hb.F⟩
   ·obtain⟨D,q1,q2⟩:=hb.at';obtain⟨D',q3,le⟩:=k2.κ _ _ q1;exact⟨D',q3,le.blk.trans q2⟩
   ·obtain⟨vals,e,q1,q2⟩:=hb.rep;exact⟨vals,e,q1,q2.mono fun _ _ h=>h.ext k2⟩
   ·rcases k3 _ ho with h|h
    ·exact hb.own h
    simp_all) h.2) n2
  exact⟨M',a1,a2,a3,a4,a5,yS.trans (M:=M) (M':=M.revive id C cs) (Nat.le_refl _) k2 a6,by grind⟩
theorem yPw:∀{ids css h h'},ids.length=css.length→(∀n,n∉ids→h n=h' n)→qH h (EB ids css)=qH h' (EB ids css)
 |[],[],h,h',_,e=>funext fun n=>e n (by simp)
 |id::ids,cs::css,h,h',hl,e=>yPw (ids:=ids) (css:=css) (by simp_all) fun n hn=>by
   by_cases k:n=id
   ·subst k;rw[yR,yR]
   ·rw[yV _ _ k,yV _ _ k];simp_all
theorem W9 {h0 s a a' v u M}(ok:Ok M)(hf:jD h0 M.h)(hv:zV M a v)(h:xw h0 s a=some (a',u)):
  ∃L:zK,L.H=M.H∧L.h=qH M.h u∧Ok L∧yO M L∧zV L a' v∧jD h0 L.h:=by
 unfold xw at h;split at h
 ·rename_i p x;split at h
  ·rename_i y u1 e;cases h;obtain⟨L,h1,h2,h3,h4,h5,h6⟩:=xm (cs:=[x]) (vs:=[v]) ok hf ⟨hv,trivial⟩ e;exact⟨L,h1,h2,h3,h4,h5.1,h6⟩
  ·cases h
 ·split at h
  ·rename_i ys u1 e;cases h;obtain⟨vs,rfl,hx⟩:=hv;obtain⟨L,h1,h2,h3,h4,h5,h6⟩:=xm ok hf hx e;exact⟨L,h1,h2,h3,h4,⟨vs,rfl,h5⟩,h6⟩
  ·cases h
 ·cases h;exact⟨M,rfl,rfl,ok,.refl M,hv,hf⟩
theorem vAb {h0}:∀{l as fi vs u M},Ok M→jD h0 M.h→zN (zV M) as vs→sB h0 l as=some (fi,u)→
  ∃L:zK,L.H=M.H∧L.h=qH M.h u∧Ok L∧yO M L∧zN (zV L) fi vs∧jD h0 L.h
 |s::l,a::as,fi,v::vs,u,M,ok,hf,hv,h=>by
  unfold sB at h;split at h
  ·rename_i a1 u1 WB rU e1 e2;cases h;obtain⟨M1,h1,h2,h3,h4,h5,h6⟩:=W9 ok hf hv.1 e1;obtain⟨M2,k1,k2,k3,k4,k5,k6⟩:=vAb h3 h6 (xn.ext h4.ext hv.2) e2;exact⟨M2,k1.trans h1,by rw[k2,h2,ll],k3,h4.trans k4,⟨h5.ext k4.ext,k5⟩,k6⟩
  ·cases h
 |[],as,fi,vs,u,M,ok,hf,hv,h=>by
  cases as<;>cases h<;>exact⟨M,rfl,rfl,ok,.refl M,hv,hf⟩
 |s::l,[],fi,vs,u,M,ok,hf,hv,h=>by cases h;exact⟨M,rfl,rfl,ok,.refl M,hv,hf⟩
def mg (M L:zK)(id jd:Nat):Prop:=∃C D B,M.κ id=some C∧C.blk=some B∧L.κ jd=some D∧D.blk=some B
theorem Xa {M L}:∀{ls is js out} {us:List Value} {cs bs},kb M.h ls is=some (cs,bs)→Kh ls js=some out→
  zN (fun id u=>∃C B,M.κ id=some C∧C.blk=some B∧u=.pointer (some ⟨B,0,none⟩)) is us→zN (fun id u=>∃C B,L.κ id=some C∧C.blk=some B∧u=.pointer (some ⟨B,0,none⟩)) js us→zN (mg M L) (vQ bs) out
 |[],[],[],out,us,cs,bs,h,k,_,_=>by cases h;cases k;exact trivial
 |(io,l)::ls,i::is,j::js,out,u::us,cs,bs,h,k,p,q=>by
  unfold kb at h;split at h
  ·rename_i cells rest Bx h1 h2;obtain⟨_,h⟩:=wM h;cases h;unfold Kh at k;split at k
   ·rename_i o ho;cases k;have ih:=Xa h2 ho p.2 q.2;cases io with
    |false=>exact ih
    |true=>
     obtain⟨C,B,k1,k2,k3⟩:=p.1;obtain⟨D,B',k4,k5,k6⟩:=q.1;rw[k3] at k6;cases k6;exact⟨⟨C,D,B,k1,k2,k4,k5⟩,ih⟩
   ·cases k
  ·cases h
theorem vEx {M L}:∀{bs n},(∀q∈bs,q.1=true)→(∀i q,bs[i]? =some q→mg M L q.2 (n+i))→zN (mg M L) (vQ bs) (me n bs.length)
 |[],n,_,_=>trivial
 |(true,id)::bs,n,h,k=>⟨k 0 _ rfl,vEx (by grind) fun i q hq=>by
   have:=k (i+1) q hq;grind⟩
 |(false,id)::bs,n,h,k=>by simp_all
theorem yOe {h}:∀{ls ids cs bs},kb h ls ids=some (cs,bs)→bs.map (·.1)=ls.map (·.1)
 |[],[],_,_,e=>by cases e;rfl
 |(io,l)::ls,id::ids,cs,bs,e=>by
  unfold kb at e;split at e
  ·rename_i cells rest Bx h1 h2;obtain⟨_,e⟩:=wM e;cases e;simp[yOe h2]
  ·cases e
theorem Xb {M L}{s:AX}{a b v cs bs out}(h:s.get M.h a=some (cs,bs)){n}(k:s.io n b=some out)(p:zV M a v)(q:s.looks=true→zV L b v)(hk:s.isChn=true→∀i q,bs[i]? =some q→mg M L q.2 (n+i)):zN (mg M L) (vQ bs) out:=by
 unfold AX.get at h;split at h
 ·cases h;cases k;exact trivial
 ·obtain⟨_,h'⟩:=wM h;cases h';cases k;exact trivial
 ·unfold AX.io at k;split at k
  ·rename_i e;cases e
  ·rename_i e;cases e
  ·rename_i io' l' jd e;cases e;exact Xa (us:=[v]) h k ⟨p,trivial⟩ ⟨q rfl,trivial⟩
  all_goals simp_all
 ·obtain⟨hg,h'⟩:=wM h;unfold AX.io at k;split at k
  ·simp_all
  ·simp_all
  ·simp_all
  ·rename_i f' agM g' js e;cases e;obtain⟨cv,rfl,hc⟩:=p;obtain⟨cv',e',lT⟩:=q rfl;cases e';exact Xa h' k hc lT
  all_goals simp_all
 ·rename_i ls id;split at h
  ·cases k;have h1:=Kl h;have h2:ls.length=bs.length:=by rw[h1];simp[Ey]
   rw[h2];exact vEx (fun q hq=>by
    have:q.1∈bs.map (·.1):=by grind
    rw[yOe h] at this;exact(by simpa[Ey] using this:_∧_).2) (hk rfl)
  ·cases h
 ·cases h
theorem yPy {M L}:∀{l as vs t n cs bs out m},kL M.h l as=some (cs,bs)→Pb l t n m=some out→zN (zV M) as vs→(∀i h s,l[i]? =some s→s.looks=true→zV L (t (n+i)) vs[i])→(l.any AX.isChn=true→∀i q,bs[i]? =some q→mg M L q.2 (m+i))→
  zN (mg M L) (vQ bs) out
 |[],[],[],t,n,cs,bs,out,m,h,k,_,_,_=>by cases h;cases k;exact trivial
 |s::l,a::as,v::vs,t,n,cs,bs,out,m,h,k,p,q,hk=>by
  unfold kL at h;split at h
  ·rename_i c1 b1 c2 b2 h1 h2;cases h;unfold Pb at k;split at k
   ·rename_i o1 o2 k1 k2;cases k;have e:∀b1 b2:List (Bool×Nat),vQ (b1++b2)=vQ b1++vQ b2:=fun b1 b2=>by
     induction b1 with
     |nil=>rfl
     |cons x b1 ih=>obtain⟨io,y⟩:=x;cases io<;>simp[vQ,ih]
    rw[e];have hnb:=vS6 h1;refine(Xb h1 k1 p.1 (q 0 (by simp) s rfl) (by grind)).append (yPy h2 k2 p.2 (fun i hi s' hs hl=>?_) fun hc i q hq=>?_)
    rotate_left
    ·have:=hk (by simp_all) (b1.length+i) q (by grind);grind
    have:=q (i+1) (by simp_all) s' (by simp_all) hl;grind
   ·cases k
  ·cases h
 |[],_::_,_,_,_,_,_,_,_,h,_,_,_,_=>by cases h
theorem vB5 {L}(iT:Ok L):∀{os ids bs},EA L.h os ids=some bs→bs.length=os.flatten.length∧ids.length=os.length∧
  ∃us:List Value,zN (zX L) bs us∧∀{M cs},M.H=L.H→zN (zX M) cs us→pb (fun id cs B=>(∃cells,L.h id=some (.box true cells))∧(∃C,L.κ id=some C∧C.blk=some B∧C.rows=[])∧∃vals e,M.H[B]? =some (.cells vals e (0,0))∧zN (zX M) cs vals.toList) ids (xv os cs) (ids.map fun id=>((L.κ id).bind qC.blk).getD 0)
 |[],[],bs,h=>by cases h;exact⟨rfl,rfl,[],trivial,fun _ _=>trivial⟩
 |o::os,n::ns,bs,h=>by
  unfold EA at h;split at h
  ·rename_i cells rest h1 h2;obtain⟨hl,h⟩:=wM h;cases h;obtain⟨C,hC,B,vals,e,q1,q2,q3,q4,_⟩:=iT.obj n _ h1;obtain⟨k1,k2,us,k3,k4⟩:=vB5 iT h2;refine⟨by simp_all,by simp[k2],vals.toList++us,q4.append k3,fun{M cs} hH hc=>⟨⟨by grind,⟨C,hC,?_,q2⟩,vals,e,?_,?_⟩,?_⟩⟩
   ·simp_all
   ·simp_all
   ·have h1:=zN.take o.length hc;have Wy:=q4.length;simp_all
   ·have h1:=zN.drop o.length hc;have Wy:=q4.length;simp_all
  ·cases h
theorem Xc {h0 r c d}(h:pX h0 r c=some d):∀id∈wG [r] [c],∀own cells,h0 id≠some (.box own cells):=by
  unfold pX at h;split at h;all_goals (try (intro id an;simp[wG] at an;done))
  all_goals first
    |(done)
    | (intro El an own cells hb
       have:=List.mem_singleton.1 an;simp_all)
    |(cases h)
theorem vFt {L}:∀{l cs d},kK L l cs=some d→∀id∈wG l cs,∀own cells,L id≠some (.box own cells)
 |r::l,c::cs,d,h,id,an=>by
  unfold kK at h;split at h
  ·rename_i x xs e1 e2;rw[O4] at an;rcases List.mem_append.1 an with an|an
   ·exact Xc e1 id an
   ·exact vFt e2 id an
  ·cases h
end Go.Ab
