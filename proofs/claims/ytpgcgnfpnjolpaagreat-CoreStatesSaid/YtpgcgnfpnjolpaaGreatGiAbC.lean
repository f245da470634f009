/- part 2 -/
import Derived.Test.YtpgcgnfpnjolpaaGreatGiAbB
import Derived.ProofKit
import Derived.Below
import Derived.Carry
set_option linter.unusedVariables false
set_option linter.unusedSimpArgs false
namespace Go.Ab
def zI.nilObj (M:zI)(nm:Nat)(o:Obj)(sz:Nat):zI:={M with κ:=κset M.κ nm ⟨none,0,sz,0,[]⟩,h:=qX M.h nm o}
def im (t:Ty)(rows:Bool):Obj:=bif rows then .mat 0 [] else .arr true t []
def ju (t:Ty)(rows:Bool):Nat:=bif rows then 1 else t.size
theorem zI.nilObj_ok {M}(ok:Ok M){nm}(aO:M.h nm=none) t rows:
  Ok (M.nilObj nm (im t rows) (ju t rows))∧yF M (M.nilObj nm (im t rows) (ju t rows))∧(∀b,qJ (M.nilObj nm (im t rows) (ju t rows)) b→qJ M b):=by
 have hO:∀M':zI,yP M' (im t rows) ⟨none,0,ju t rows,0,[]⟩:=fun M'=>by
  cases rows with
  |false=>exact⟨rfl,rfl,by simp,rfl⟩
  |true=>exact⟨rfl,rfl,rfl,rfl,by simp[zZ.fp],rfl⟩
 have x:yF M (M.nilObj nm (im t rows) (ju t rows)):=⟨fun id C h=>by
  have bj:id≠nm:=fun e=>by rw[e,ok.non nm aO] at h;cases h
  exact⟨C,by show κset M.κ nm _ id=_;rw[κset_ne _ _ bj];exact h,C.le_refl⟩,fun _ h=>h,fun _ h=>h,fun _ _=>rfl,fun _ _=>rfl,fun _ _=>rfl⟩
 refine⟨Ok.build ok x (fun id=>id=nm) (fun id h=>yJ _ _ h) (fun id h=>κset_ne _ _ h) (fun _ _ _ _ _ _ _ _ _=>rfl) (fun id o C h1 h2 h3 h4 b hb=>(ok.own b ⟨id,o,C,h2,h3,h4,hb⟩).1) (Nat.le_refl _)
  (fun id o e h=>?_) (fun id e h=>?_) (fun id o C b e h1 h2 h3 h4=>?_) ok.GF ok.Flt,x,fun b hb=>?_⟩
 ·subst e;have e1:(M.nilObj id (im t rows) (ju t rows)).h id=some (im t rows):=yE _ _ _;rw[e1] at h;cases h;exact⟨_,κset_same _ _ _,hO _⟩
 ·have e1:(M.nilObj id (im t rows) (ju t rows)).h id=some (im t rows):=yE _ _ _;simp_all
 ·subst e;have e1:(M.nilObj id (im t rows) (ju t rows)).κ id=some _:=κset_same _ _ _;rw[e1] at h3;cases h3;simp[zZ.fp] at h4
 ·obtain⟨id,o,C,h1,h2,h3,h4⟩:=hb;by_cases e:id=nm
  ·subst e;have e1:(M.nilObj id (im t rows) (ju t rows)).κ id=some _:=κset_same _ _ _;rw[e1] at h3;cases h3;simp[zZ.fp] at h4
  ·exact⟨id,o,C,by rw[←h1];exact(yJ _ _ e).symm,h2,by rw[←h3];exact(κset_ne _ _ e).symm,h4⟩
theorem gH.same_mem {M M'}(hF:M'.F=M.F)(hG:M'.G=M.G)(hH:M'.H=M.H)(ho:∀b,qJ M' b→qJ M b):gH M M':=
 ⟨by grind,by grind,by grind,by grind,by grind,by simp_all,by grind,by grind,
  by grind,by grind⟩
theorem gH.refl M:gH M M:=.same_mem rfl rfl rfl (by simp)
section
variable {na nt:Nat} {a0:Nat→Value} {M0:zI} {w0 w:World} {a:Act}
theorem zK.set_left {α β R l}{m:List β}(h:zK R l m){j}{c:α}(hc:∀(h1:j<l.length) h2,R c m[j]):zK R (l.set j c) m:=by
 refine zK.of_get (by rw[List.length_set];exact h.length) fun i hi bE=>?_
 rw[List.length_set] at hi;by_cases e:j=i
 ·simp_all
 ·rw[List.getElem_set_ne e];exact h.get i hi bE
theorem vE5 {st}{s j}(r:vF false na nt a0 M0 w0 st a w):vF false na nt a0 M0 w0 (NA st s j) a w:=by
 obtain⟨M,h1,h2,h3,h4,h5⟩:=r.ex;unfold NA;split
 ·split
  ·rename_i c hs;split
   ·rename_i c' u hf;have hv:=h5 s;rw[hs] at hv;rw[←h1] at hf;obtain⟨L,k1,k2,k3,k4,k5,_⟩:=Ej h3 (wF.refl _) (show zQ M c _ from hv) hf;refine⟨⟨L,by rw[k2,h1],k1.trans h2,k3,h4.trans k4.grow,fun t=>?_⟩,r.defers,r.size,r.os,r.tape,r.output,r.keep⟩;show zP _ (wP st.t s _ t) _;unfold wP;cases e:Nat.beq t s with
    |false=>exact(h5 t).ext k4.ext
    |true=>
     have e:t=s:=by simpa using e
     subst e;exact k5
   ·exact r
  ·exact r
 ·rename_i j;split
  ·rename_i id hs;split
   ·rename_i cells ah;split
    ·rename_i c yH;split
     ·rename_i c' u hf;rw[←h1] at hf ah;obtain⟨C0,nM,hO0⟩:=h3.obj id _ ah;obtain⟨B0,sm,e0,b10,b20,b30,ZY,b50⟩:=hO0;have hj:j<cells.length:=(List.getElem?_eq_some_iff.1 yH).1;have O0:j<sm.toList.length:=by rw[←ZY.length];exact hj
      have iR:=ZY.get j hj O0;have ec:cells[j]=c:=by grind
      rw[ec] at iR;obtain⟨L,k1,k2,k3,k4,k5,k6,_⟩:=Ej h3 (wF.refl _) iR hf;have uX:L.h id=some (.box true cells):=by
       rcases k6 id with h|⟨own,t,xs,h,_⟩|⟨ver,xs,h,_⟩
       all_goals simp_all
      obtain⟨C,hC,hO⟩:=k3.obj id _ uX;obtain⟨B,vals,e,b1,b2,b3,b4,b5⟩:=hO;obtain⟨C1,fV,le⟩:=k4.ext.κ id C0 nM;rw[hC] at fV;cases fV;have eB:B=B0:=by rw[le.blk,b10] at b1;simp_all
      subst eB;rw[k1,b30] at b3;cases b3;have hx:=zI.write_ext (H':=L.H) k3 uX rfl hC C.le_refl (by simp) (by simp) (.box true (cells.set j c'));have hw := zI.write_ok (H' := L.H) (o' := .box true (cells.set j c')) k3 uX rfl hC C.le_refl (by simp) rfl (by simp) (by simp) (by
       refine⟨B,sm,e0,b1,b2,by show L.H[B]? =_;simp_all,?_,by simp⟩;exact(b4.mono fun _ _ h=>h.ext hx).set_left fun _ _=>k5.ext hx)
      refine⟨⟨L.write id (.box true (cells.set j c')) C L.H,?_,k1.trans h2,hw.1,(h4.trans k4.grow).trans hw.2.grow,fun t=>((h5 t).ext k4.ext).ext hx⟩,r.defers,r.size,r.os,r.tape,r.output,r.keep⟩;show qX L.h id _=qX (qF st.h u) id _;rw[k2,h1]
     ·exact r
    ·exact r
   ·exact r
  ·rename_i cells hs;split
   ·rename_i c yH;split
    ·rename_i c' u hf;have hv:=h5 s;rw[hs] at hv;obtain⟨vs,dh,bb⟩:=hv;rw[←h1] at hf;have hj:j<cells.length:=by grind
     have O0:j<vs.toList.length:=by rw[←bb.length];exact hj
     have iR:=bb.get j hj O0;have ec:cells[j]=c:=by grind
     rw[ec] at iR;obtain⟨L,k1,k2,k3,k4,k5,k6,_⟩:=Ej h3 (wF.refl _) iR hf;refine⟨⟨L,by rw[k2,h1],k1.trans h2,k3,h4.trans k4.grow,fun t=>?_⟩,r.defers,r.size,r.os,r.tape,r.output,r.keep⟩;show zP _ (wP st.t s _ t) _;unfold wP;cases e:Nat.beq t s with
     |false=>exact(h5 t).ext k4.ext
     |true=>
      have e:t=s:=by simpa using e
      subst e;exact⟨vs,dh,(bb.mono fun _ _ h=>h.ext k4.ext).set_left (by grind)⟩
    ·exact r
   ·exact r
  ·exact r
theorem vL7 {st nm g}(r:vF false na nt a0 M0 w0 st a w)(aO:st.h nm=none):vF false na nt a0 M0 w0 (NB st nm g) a w:=by
 obtain⟨M,h1,h2,h3,h4,h5⟩:=r.ex;have hM:M.h nm=none:=by simp_all
 obtain⟨k1,k2,k3⟩:=M.nilObj_ok h3 hM g.2.2.1 g.2.2.2;have cA:zQ (M.nilObj nm (im g.2.2.1 g.2.2.2) (ju g.2.2.1 g.2.2.2)) (.osl nm none) (.slice none 0 0):=⟨_,κset_same _ _ _,none,0,rfl,rfl,rfl,rfl⟩;have gr:pC false M0 (M.nilObj nm (im g.2.2.1 g.2.2.2) (ju g.2.2.1 g.2.2.2)):=h4.trans (.same_mem rfl rfl rfl k3);unfold NB;cases ZZ:g.2.2.2&&Yl g.2.2.1 with
 |true=>exact vE5 r
 |false=>
 split
 ·split
  ·rename_i hs;refine⟨⟨M.nilObj nm (im g.2.2.1 g.2.2.2) (ju g.2.2.1 g.2.2.2),?_,h2,k1,gr,fun t=>?_⟩,r.defers,r.size,r.os,r.tape,r.output,r.keep⟩
   ·show qX M.h nm _=qX st.h nm _;rw[h1];rfl
   ·show zP _ (wP st.t g.1 _ t) _;unfold wP;cases e:Nat.beq t g.1 with
    |false=>exact(h5 t).ext k2
    |true=>
     have e:t=g.1:=by simpa using e
     subst e;have hv:=h5 g.1;rw[hs] at hv;rw[hv];exact cA
  ·exact r
 ·rename_i j hj;split
  ·rename_i id hs;split
   ·rename_i cells ah;split
    ·have bj:id≠nm:=by grind
     let M1:=M.nilObj nm (im g.2.2.1 g.2.2.2) (ju g.2.2.1 g.2.2.2);have mC:M1.h id=some (.box true cells):=by
      show qX M.h nm _ id=_;rw[yJ _ _ bj,h1];exact ah
     obtain⟨C,hC,hO⟩:=k1.obj id _ mC;obtain⟨B,vals,e,b1,b2,b3,b4,b5⟩:=hO;have hx:=zI.write_ext (H':=M1.H) k1 mC rfl hC C.le_refl (by grind) (by grind) (.box true (cells.set j (.osl nm none)));have hw := zI.write_ok (H' := M1.H) (o' := .box true (cells.set j (.osl nm none))) k1 mC rfl hC C.le_refl (by simp) rfl (by grind) (by grind) (by
      refine⟨B,vals,e,b1,b2,b3,?_,by simp⟩;have hl:=b4.length;refine zK.of_get (by simp_all) fun i hi bE=>?_
      have hb:=b4.get i (by omega) bE;by_cases Z0:j=i
      ·subst Z0;rw[List.getElem_set_self];have ec:cells[j]=.nsl:=by
        grind
       rw[ec] at hb;rw[hb];exact cA.ext hx
      ·rw[List.getElem_set_ne Z0];exact hb.ext hx)
     refine⟨⟨M1.write id (.box true (cells.set j (.osl nm none))) C M1.H,?_,h2,hw.1,gr.trans hw.2.grow,fun t=>((h5 t).ext k2).ext hx⟩,r.defers,r.size,r.os,r.tape,r.output,r.keep⟩;show qX (qX M.h nm _) id _=qX (qX st.h nm _) id _;rw[h1];rfl
    ·exact r
   ·exact r
  ·exact r
theorem Z1:∀{l st bF nm},vF false na nt a0 M0 w0 st a w→IH st nm l=some bF→vF false na nt a0 M0 w0 bF a w
 |[],st,bF,nm,r,h=>by cases h;exact r
 |g::l,st,bF,nm,r,h=>by
  unfold IH at h;split at h
  ·rename_i aO;exact Z1 (vL7 r aO) h
  ·cases h
theorem Z2 {id}:∀{l n i},jF id l n=some i→n≤i∧l[i-n]? =some id
 |x::l,n,i,h=>by
  unfold jF at h;cases e:Nat.beq x id with
  |true=>
   simp_all
  |false=>
   rw[e] at h;obtain⟨h1,h2⟩:=Z2 (l:=l) h;grind
theorem O1 {h}:∀n {todo seen},seen.Nodup→(yq h n todo seen).Nodup
 |0,_,_,hs
 |n+1,[],_,hs=>hs
 |n+1,id::todo,seen,hs=>by
  unfold yq;cases e:seen.any (Nat.beq id) with
  |true=>exact O1 n hs
  |false=>
   refine O1 n (List.nodup_append.2 ⟨hs,by simp,fun x hx y hy exy=>?_⟩);have:y=id:=by simp_all
   have:=List.any_eq_false.1 e x hx;simp_all
def mH (base : Nat) (κ : Nat → Option zZ) (ids : List Nat) : Nat → Option zZ := fun n => if base ≤ n then (match ids[n-base]? with
 |some id=>(κ id).map fun C=>{C with ver:=0}
 |none=>none) else none
def zI.ren (M:zI)(base:Nat)(ids:List Nat):zI:={M with κ:=mH base M.κ ids,h:=uq base M.h ids}
theorem vDd {base h ids n o}(e:uq base h ids n=some o):∃id o',base≤n∧ids[n-base]? =some id∧h id=some o'∧o=rR h (fun i=>(jF i ids 0).map (base+·)) o':=by
 unfold uq at e;cases hb:Nat.ble base n with
 |false=>simp_all
 |true=>
  rw[hb] at e;split at e
  ·obtain⟨o',h1,h2⟩:=Option.map_eq_some_iff.1 e;simp_all
  ·cases e
theorem vK8 {base κ ids id i C}(hi:jF id ids 0=some i)(hC:κ id=some C):mH base κ ids (base+i)=some {C with ver:=0}:=by
 obtain⟨_,h⟩:=Z2 hi;unfold mH;simp_all
theorem O2 {M}(ok:Ok M){base ids c v}(h:zQ M c v):zQ (M.ren base ids) (rQ M.h (fun i=>(jF i ids 0).map (base+·)) c) v:=by
 have h1:=h.one;have look:∀id C,M.κ id=some C→∀i,(jF id ids 0).map (base+·)=some i→(M.ren base ids).κ i=some {C with ver:=0}:=fun id C hC i hi=>by
  obtain⟨j,hj,rfl⟩:=Option.map_eq_some_iff.1 hi;exact vK8 hj hC
 unfold rQ;cases c with
 |osl id r=>
  dsimp only;obtain⟨C,hC,h⟩:=h;cases e:(jF id ids 0).map (base+·) with
  |none=>exact h1
  |some i=>cases r with
   |none=>exact⟨_,look id C hC i e,h⟩
   |some p=>exact⟨_,look id C hC i e,h⟩
 |bsl id x y=>
  dsimp only;obtain⟨C,B,hC,h⟩:=h;cases e:(jF id ids 0).map (base+·) with
  |none=>exact h1
  |some i=>exact⟨_,B,look id C hC i e,h⟩
 |ptr id x=>
  dsimp only;obtain⟨C,B,hC,h⟩:=h;cases e:(jF id ids 0).map (base+·) with
  |none=>exact h1
  |some i=>exact⟨_,B,look id C hC i e,h⟩
 |eptr id x y=>
  dsimp only;obtain⟨C,B,hC,h⟩:=h;cases e:(jF id ids 0).map (base+·) with
  |none=>exact h1
  |some i=>exact⟨_,B,look id C hC i e,h⟩
 |mrow id x ver=>
  dsimp only;obtain⟨C,hC,ho,hle,h⟩:=h;cases e:(jF id ids 0).map (base+·) with
  |none=>exact h1
  |some i=>
   split
   ·rename_i i' v' xs ei ah;cases ei;cases eu:Nat.beq v' ver with
    |false=>exact h1
    |true=>
     have fS:v'=ver:=by simpa using eu
     obtain⟨C',aw,hO⟩:=ok.obj id _ ah;rw[hC] at aw;cases aw;exact⟨_,look id C hC i e,h1,Nat.le_refl _,fun _=>h (by rw[hO.1,fS])⟩
   ·exact h1
 |mptr id x=>
  dsimp only;obtain⟨C,B,hC,h⟩:=h;cases e:(jF id ids 0).map (base+·) with
  |none=>exact h1
  |some i=>exact⟨_,B,look id C hC i e,h⟩
 |meptr id x y ver=>
  dsimp only;obtain⟨C,hC,ho,hle,h⟩:=h;cases e:(jF id ids 0).map (base+·) with
  |none=>exact h1
  |some i=>
   split
   ·rename_i i' v' xs ei ah;cases ei;cases eu:Nat.beq v' ver with
    |false=>exact h1
    |true=>
     have fS:v'=ver:=by simp_all
     obtain⟨C',aw,hO⟩:=ok.obj id _ ah;rw[hC] at aw;cases aw;exact⟨_,look id C hC i e,h1,by simp,fun _=>h (by rw[hO.1,fS])⟩
   ·exact h1
 |map id=>
  dsimp only;obtain⟨C,B,hC,h⟩:=h;cases e:(jF id ids 0).map (base+·) with
  |none=>exact h1
  |some i=>exact⟨_,B,look id C hC i e,h⟩
 |fn f cap=>
  dsimp only;obtain⟨cv,rfl,h⟩:=h;split
  ·rename_i c hc;refine⟨cv,rfl,?_⟩;have:=EL _ _ _ hc;generalize cv.toList=l at h;clear hc h1
   induction cap generalizing c l with
   |nil=>cases c with
    |nil=>cases l with
     |nil=>trivial
     |cons _ _=>exact h.elim
    |cons _ _=>exact this.elim
   |cons x cap ih=>cases c with
    |nil=>exact this.elim
    |cons y c=>cases l with
     |nil=>exact h.elim
     |cons u l=>
      obtain⟨⟨C,B,hC,hh⟩,h⟩:=h;exact⟨⟨_,B,look x C hC y this.1,hh⟩,ih c this.2 l h⟩
  rfl
 |fsl sh t xs=>exact h
 |fptr sh t x off=>exact h
 |_=>exact h
theorem EW {M}(ok:Ok M){base ids}:∀{cs vs},zK (zQ M) cs vs→zK (zQ (M.ren base ids)) (cs.map (rQ M.h fun i=>(jF i ids 0).map (base+·))) vs
 |[],[],_=>trivial
 |_::_,_::_,h=>⟨O2 ok h.1,EW ok h.2⟩
theorem yT0 {M}(ok:Ok M){base ids x v}(h:zP M x v):zP (M.ren base ids) (Yk M.h (fun i=>(jF i ids 0).map (base+·)) x) v:=by
 cases x with
 |undef=>trivial
 |skp=>exact h
 |c x=>exact O2 (c:=x) ok h
 |agg cs=>
  obtain⟨vs,h1,h2⟩:=h;exact⟨vs,h1,EW ok h2⟩
 |tup xs=>
  obtain⟨vs,h1,h2⟩:=h;refine⟨vs,h1,zK.map_left (h2.mono fun p u hp=>?_)⟩;obtain⟨b,cs⟩:=p;cases b with
  |true=>
   obtain⟨us,q1,q2⟩:=hp;exact⟨us,q1,EW ok q2⟩
  |false=>
   cases cs with
   |nil=>exact hp
   |cons c cs=>cases cs with
    |nil=>exact O2 (c:=c) ok hp
    |cons _ _=>exact hp
theorem Z3 {M}(ok:Ok M){base ids o C}(h:yP M o C):yP (M.ren base ids) (rR M.h (fun i=>(jF i ids 0).map (base+·)) o) {C with ver:=0}:=by
 cases o with
 |box own cells=>
  obtain⟨B,vals,e,h1,h2,h3,h4,h5⟩:=h;exact⟨B,vals,e,h1,h2,h3,EW ok h4,h5⟩
 |robox cells=>
  obtain⟨B,vals,e,h1,h2,h3,h4,h5⟩:=h;exact⟨B,vals,e,h1,h2,h3,EW ok h4,h5⟩
 |arr own t xs=>exact h
 |mat ver xs=>
  obtain⟨h1,h2⟩:=h;exact⟨rfl,h2⟩
 |pmat ver xs n=>
  obtain⟨h1,h2⟩:=h;exact⟨rfl,h2⟩
 |imap cL=>exact h
 |gone=>trivial
theorem O3 {h ρ} o:(rR h ρ o).owned=o.owned:=by cases o<;>rfl
theorem zI.ren_ok {M}(ok:Ok M){base ids}(di:ids.Nodup):Ok (M.ren base ids)∧∀b,qJ (M.ren base ids) b→qJ M b:=by
 have at':∀n o,(M.ren base ids).h n=some o→∃id o' C,base≤n∧ids[n-base]? =some id∧M.h id=some o'∧M.κ id=some C∧o=rR M.h (fun i=>(jF i ids 0).map (base+·)) o'∧yP M o' C∧(M.ren base ids).κ n=some {C with ver:=0}:=fun n o h=>by
  obtain⟨id,o',h1,h2,h3,h4⟩:=vDd h;obtain⟨C,hC,hO⟩:=ok.obj id _ h3;refine⟨id,o',C,h1,h2,h3,hC,h4,hO,?_⟩;show mH base M.κ ids n=_;unfold mH;simp_all
 have kU:∀b,qJ (M.ren base ids) b→qJ M b:=fun b ⟨n,o,C,h1,h2,h3,h4⟩=>by
  obtain⟨id,o',C',k1,k2,k3,k4,k5,k6,k7⟩:=at' n o h1;rw[k7] at h3;cases h3;exact⟨id,o',C',k3,by rw[←h2,k5,O3],k4,h4⟩
 refine⟨⟨fun n o h=>?_,fun n h=>?_,fun i j oi oj Ci Cj b jb h1 h2 h3 h4 h5 h6 h7 h8=>?_,fun b h=>ok.own b (kU b h),ok.GF,ok.Flt⟩,kU⟩
 ·obtain⟨id,o',C,k1,k2,k3,k4,rfl,k6,k7⟩:=at' n o h;exact⟨_,k7,Z3 ok k6⟩
 ·show mH base M.κ ids n=none;unfold mH;split
  ·rename_i hb;split
   ·rename_i id ah;have:M.h id=none:=by
     cases e:M.h id with
     |none=>rfl
     |some o=>
      have:(M.ren base ids).h n=some (rR M.h (fun i=>(jF i ids 0).map (base+·)) o):=by
       show uq base M.h ids n=_;unfold uq;rw[show Nat.ble base n=true from Nat.ble_eq_true_of_le hb,ah];simp[e]
      simp_all
    rw[ok.non id this];rfl
   ·rfl
  ·rfl
 ·obtain⟨id,o',C,k1,k2,k3,k4,k5,k6,k7⟩:=at' i oi h1;obtain⟨jd,p',D,q1,q2,q3,q4,q5,q6,q7⟩:=at' j oj h2;rw[k7] at h5;rw[q7] at h6;cases h5;cases h6;refine ok.disj id jd o' p' C D b (fun e=>?_) k3 q3 (by rw[←h3,k5,O3]) (by rw[←h4,q5,O3]) k4 q4 h7 h8;have hi:=(List.getElem?_eq_some_iff.1 k2);have hj:=(List.getElem?_eq_some_iff.1 q2);have:=(List.getElem_inj (h₀:=hi.1) (h₁:=hj.1) di).1 (by omega);omega
theorem Z4:∀{a b},Iz a b=true→a=b
 |[],[],_=>rfl
 |x::a,y::b,h=>by
  simp only[Iz,Bool.and_eq_true] at h;rw[Nat.eq_of_beq_eq_true h.1,Z4 h.2]
theorem vQv {c v}(h:Nu c v=true):c=.undef∨c=v:=by
 unfold Nu at h;split at h
 ·simp
 ·simp
 ·simp
 ·simp
 ·simp
 ·simp_all
 ·simp_all
 ·simp_all
 ·simp only[Bool.and_eq_true] at h;exact .inr (by rw[Nat.eq_of_beq_eq_true h.1,Z4 h.2])
 all_goals simp_all
theorem lf {α:Type}{c x}{y:α}(h:(bif c then x else none)=some y):c=true∧x=some y:=by
 grind
theorem pF {M}(ok:Ok M):∀{l cs d vs},kl l cs=some d→zK (zQ M) cs vs→zK (zQ M) (my l d) vs
 |[],[],_,[],_,_=>trivial
 |.int k::l,c::cs,d,v::vs,h,hv=>by
  cases c<;>first|(cases h;done)|skip
  obtain⟨hk,h⟩:=lf h;split at h
  ·rename_i d' hd;cases h;refine⟨?_,pF ok hd hv.2⟩;rw[←oW hk];exact hv.1
  ·cases h
 |.bool::l,c::cs,d,v::vs,h,hv=>by
  cases c<;>first|(cases h)|skip
  unfold kl at h;split at h
  ·rename_i d' hd;cases h;exact⟨hv.1,pF ok hd hv.2⟩
  ·cases h
 |.dat sh t::l,c::cs,d,v::vs,h,hv=>by
  cases c<;>first|(cases h;done)|skip
  ·rename_i Ec s xs;obtain⟨hs,h⟩:=lf h;split at h
   ·rename_i ys d' hx hd;cases h;obtain⟨e,hx⟩:=iP hx;subst e;subst hx;refine⟨?_,pF ok hd hv.2⟩;have h1:qB M.H (bif Ec then M.G else M.F) (.sl s) xs (fun _=>some v):=hv.1;cases sh with
    |true=>
     have:Ec=true:=by simp_all
     subst this;exact h1
    |false=>cases Ec with
     |false=>exact h1
     |true=>exact yR ok.GF (by simp) _ _ _ _ (by simp) h1
   ·cases h
  ·unfold kl at h;split at h
   ·rename_i d' hd;cases h;refine⟨?_,pF ok hd hv.2⟩;rw[show v=.slice none 0 0 from hv.1];exact⟨none,0,0,rfl,rfl,by simp,by simp⟩
   ·cases h
 |.lit c::l,x::cs,d,v::vs,h,hv=>by
  obtain⟨he,h⟩:=lf h;refine⟨?_,pF ok h hv.2⟩;rcases vQv he with rfl|rfl
  ·exact hv.1.one
  ·exact hv.1
theorem vOl {M}(ok:Ok M){v a d rv}(h:Nv v a=some d)(hv:zP M a rv):zP M (Nw v d) rv:=by
 cases v with
 |c x=>
  cases a with
  |c y=>
   have:=pF ok (vs:=[rv]) (show kl [x] [y]=some d from h) ⟨hv,trivial⟩;show zP M (match my [x] d with|c::_=>.c c|[]=>.undef) rv
   match hh:my [x] d,this with
   |[c],this=>exact this.1
  |_=>cases h
 |agg l=>
  cases a with
  |agg vs=>
   obtain⟨us,rfl,hx⟩:=hv;exact⟨us,rfl,pF ok (show kl l vs=some d from h) hx⟩
  |_=>cases h
theorem vQq {M}(ok:Ok M){o x d C}(h:IA o x=some d)(hO:yP M x C)(hv:C.ver=0):yP M (IB o d) C∧(IB o d).owned=x.owned:=by
 unfold IA at h;split at h
 ·obtain⟨he,h'⟩:=lf h;have he:=eq_of_beq he;subst he;clear h;obtain⟨B,vals,e,h1,h2,h3,h4,h5⟩:=hO;exact⟨⟨B,vals,e,h1,h2,h3,pF ok h' h4,h5⟩,rfl⟩
 ·obtain⟨B,vals,e,h1,h2,h3,h4,h5⟩:=hO;exact⟨⟨B,vals,e,h1,h2,h3,pF ok h h4,h5⟩,rfl⟩
 ·obtain⟨he,h'⟩:=lf h;have he:=eq_of_beq he;subst he;obtain⟨e,hx⟩:=iP h';subst e;subst hx;exact⟨hO,rfl⟩
 ·cases h;exact⟨⟨hv,hO.2⟩,rfl⟩
 ·cases h;exact⟨⟨hv,hO.2⟩,rfl⟩
 ·cases h;exact⟨hO,rfl⟩
 ·cases h
theorem Z5 {f t}:∀{l d n v},II f t l=some d→(yn l d).lookup n=some v→∃(s:VS) (x:SL s.cells),Nv s (f (t n))=some x∧v=Nw s x
 |s::l,d,n,v,hr,h=>by
  unfold II at hr;split at hr
  ·rename_i x ds h1 h2;cases hr;unfold yn at h;rw[List.lookup_cons] at h;cases e:n==s.1 with
   |true=>
    grind
   |false=>
    rw[e] at h;exact Z5 h2 h
  ·cases hr
theorem Z6 {f h0}:∀{l ids d},IJ f h0 l ids=some d→(o9 l d).length=ids.length∧∀(i:Nat) o,(o9 l d)[i]? =some o→∃(s:OS) (x:s.den) (id:Nat) (y:Obj),ids[i]? =some id∧h0 id=some y∧IA s (f y)=some x∧o=IB s x
 |[],[],d,_=>⟨rfl,nofun⟩
 |s::l,id::ids,d,h=>by
  unfold IJ at h;split at h
  ·rename_i x ds h1 h2;cases h;obtain⟨y,h3,h4⟩:=Option.bind_eq_some_iff.1 h1;obtain⟨k1,k2⟩:=Z6 h2;refine⟨by simp[o9,k1],fun i o hi=>?_⟩;cases i with
   |zero=>
    simp[o9] at hi;grind
   |succ i=>
    simp[o9] at hi;simp_all
  ·cases h
theorem vM2 {g0 base n:Nat}{S:zE}{st:St}{d:S.den}(r:vF false na nt a0 M0 w0 st a w)(h:NC g0 base n S st=some d):vF false na nt a0 M0 w0 (zL base S d) a w:=by
 unfold NC at h;split at h
 ·cases h
 rename_i st1 hg;have r:=Z1 r hg;dsimp only at h;generalize jq:yq st1.h n _ []=ids at h;have di:ids.Nodup:=by rw[←jq];exact O1 n List.nodup_nil
 split at h
 case h_2=>cases h
 rename_i da db ha hb;cases h;obtain⟨M,h1,h2,h3,h4,h5⟩:=r.ex;rw[←h1] at ha hb;obtain⟨k1,k2⟩:=M.ren_ok h3 (base:=base) di;obtain⟨ol,oa⟩:=Z6 hb;let M':zI:={M.ren base ids with h:=(zL base S (da,db)).h};have Jr:∀n o',M'.h n=some o'→∃o C,(M.ren base ids).h n=some o∧M'.κ n=some C∧yP (M.ren base ids) o' C∧o'.owned=o.owned:=fun m o' e=>by
  have e:(bif Nat.ble base m then(o9 S.objs db)[m-base]? else none)=some o':=e;obtain⟨hle,e⟩:=lf e;obtain⟨s,x,id,y,q1,q2,q3,rfl⟩:=oa _ _ e;obtain⟨C,hC,hO⟩:=h3.obj id y q2;have hκ:(M.ren base ids).κ m=some {C with ver:=0}:=by
   show mH base M.κ ids m=_;unfold mH;simp_all
  have hh:(M.ren base ids).h m=some (rR M.h (fun i=>(jF i ids 0).map (base+·)) y):=by
   show uq base M.h ids m=_;unfold uq;grind
  obtain⟨p1,p2⟩:=vQq k1 q3 (Z3 h3 hO) rfl;grind
 have x:yF (M.ren base ids) M':=⟨fun _ C h=>⟨C,h,C.le_refl⟩,fun _ h=>h,fun _ h=>h,fun _ _=>rfl,by grind,fun _ _=>rfl⟩;have aJ:∀b,qJ M' b→qJ (M.ren base ids) b:=fun b ⟨id,o',C,q1,q2,q3,q4⟩=>by
  obtain⟨o,D,p1,p2,p3,p4⟩:=Jr id o' q1;exact⟨id,o,C,p1,by rw[←p4];exact q2,q3,q4⟩
 have ie:Ok M':=by
  refine⟨fun id o' q=>?_,fun id q=>?_,fun i j oi oj Ci Cj b jb q1 q2 q3 q4 q5 q6 q7 q8=>?_,fun b hb=>k1.own b (aJ b hb),k1.GF,k1.Flt⟩
  ·obtain⟨o,C,p1,p2,p3,p4⟩:=Jr id o' q;exact⟨C,p2,p3.ext x (by grind)⟩
  ·have q:(bif Nat.ble base id then(o9 S.objs db)[id-base]? else none)=none:=q;show mH base M.κ ids id=none;unfold mH;cases hle:Nat.ble base id with
   |false=>rw[if_neg fun h=>by rw[Nat.ble_eq_true_of_le h] at hle;cases hle]
   |true=>
    simp_all
  ·obtain⟨o1,C1,p1,p2,p3,p4⟩:=Jr i oi q1;obtain⟨o2,C2,p5,p6,p7,p8⟩:=Jr j oj q2;exact k1.disj i j o1 o2 Ci Cj b jb p1 p5 (by rw[←p4];exact q3) (by rw[←p8];exact q4) q5 q6 q7 q8
 refine⟨⟨M',rfl,h2,ie,h4.trans (.same_mem rfl rfl rfl (by grind)),fun m=>?_⟩,r.defers,r.size,r.os,r.tape,r.output,r.keep⟩;show zP M' (match(yn S.slots da).lookup m with|some v=>v|none=>.undef) _;cases hl:(yn S.slots da).lookup m with
 |none=>trivial
 |some v=>
  obtain⟨s,y,q1,rfl⟩:=Z5 ha hl;exact(vOl k1 q1 (yT0 h3 (h5 m))).ext x
theorem Js {pre S st d}(r:vF false na nt a0 M0 w0 st a w)(h:Ee pre S st=some d):vF false na nt a0 M0 w0 (zL (pre+fD) S d) a w:=vM2 r h
end
end Go.Ab
set_option linter.unusedSectionVars false
namespace Go.Ab
def Ex.toExit:Ex→Exit
 |.normal=>.normal
 |.ret=>.ret
 |.exit id=>.exit id
theorem Z7 {P Q c}(I:Nat→Act→World→Prop)(round:∀n a w,I n a w→c.wp P (Exit.then (fun a' w'=>∃m,m<n∧I m a' w') Q) a w){n a w}(h₀:I n a w):(Code.loop c).wp P Q a w:=by
 intro b k cs;have key:∀n a w,I n a w→∃e a' w',Q e a' w'∧Arrives P (lone (b.at a (.code c::.inLoop c::k)) cs w) b k cs e a' w':=by
  intro n
  induction n using Nat.strongRecOn with
  |_ n ih=>
   intro a w hI;obtain⟨e,a₁,w₁,hq,iq⟩:=round n a w hI b (.inLoop c::k) cs;cases e with
   |normal=>
    obtain⟨m,hm,hI₁⟩:=hq;obtain⟨e₂,a₂,w₂,hq₂,harr₂⟩:=ih m hm a₁ w₁ hI₁;exact⟨e₂,a₂,w₂,hq₂,.of_steps (Steps.trans iq (.one step_inLoop)) harr₂⟩
   |exit id=>exact⟨_,a₁,w₁,hq,.pass (x:=.inLoop c) rfl (by simp) iq⟩
   |goto l=>exact⟨_,a₁,w₁,hq,.pass (x:=.inLoop c) rfl (by simp) iq⟩
   |ret=>exact⟨_,a₁,w₁,hq,.pass (x:=.inLoop c) rfl (fun _ _=>.inl (by simp)) iq⟩
   |panic ch=>exact⟨_,a₁,w₁,hq,.pass (x:=.inLoop c) rfl (fun _ _=>.inl (by simp)) iq⟩
   |outgrown=>exact⟨_,a₁,w₁,hq,.pass (x:=.inLoop c) rfl (by simp) iq⟩
 obtain⟨e,a',w',hq,iq⟩:=key n a w h₀;exact⟨e,a',w',hq,.of_steps (.one step_loop) iq⟩
def Jt (tmps:Array Value):ResultVar→Sem Value
 |.tmp t=>pure (tmps.getD t undef)
 |.cell c t=>do loadVar t (←asAddr (tmps.getD c undef))
def uY (base:Nat):(l:List (Ex×zE))→rN l→Ex×St
 |[],d=>(.normal,⟨fun _=>.undef,fun _=>none⟩)
 |[p],d=>(p.1,zL base p.2 d)
 |p::q::l,d=>match d with
  |.inl d=>(p.1,zL base p.2 d)
  |.inr d=>uY base (q::l) d
theorem Z8 {R base K}{out:R}:∀{l d},yt base l d K=some out→K (uY base l d).1 (uY base l d).2=some out
 |[p],_,h
 |p::q::l,.inl d,h=>h
 |p::q::l,.inr d,h=>Z8 (l:=q::l) h
def EX (base:Nat):(l:List zE)→pb l→St
 |[],_=>⟨fun _=>.undef,fun _=>none⟩
 |[S],d=>zL base S d
 |S::T::l,d=>match d with
  |.inl d=>zL base S d
  |.inr d=>EX base (T::l) d
theorem Z9 {R base K}{out:R}:∀{l d},IK base l d K=some out→K (EX base l d)=some out
 |[S],_,h
 |S::T::l,.inl d,h=>h
 |S::T::l,.inr d,h=>Z9 (l:=T::l) h
def zU (P:Program)(pre na nt:Nat)(b:Code)(L:zX):Prop:=∀k d x,L.sum k d=some x→∀(a0:Nat→Value) (M0:zI) (w0:World) (a:Act) (w:World) (Q:Exit→Act→World→Prop),
 vF false na nt a0 M0 w0 (EX (pre+fD) L.ins d) a w→
 (∀(o:rN L.outs) a' w',(∀R K,L.elim (pre+fD) x R K=yt (pre+fD) L.outs o K)→vF false na nt a0 M0 w0 (uY (pre+fD) L.outs o).2 a' w'→Q (uY (pre+fD) L.outs o).1.toExit a' w')→
 (Code.loop b).wp P Q a w
def wA (P:Program)(A:zY)(pre na nt:Nat):Code→Prop
 |.seq a b=>wA P A pre na nt a∧wA P A pre na nt b
 |.cond _ a b=>wA P A pre na nt a∧wA P A pre na nt b
 |.block _ b=>wA P A pre na nt b
 |.loop b=>(∀L,rS A b=some L→zU P pre na nt b L)∧(rS A b=none→wA P A pre na nt b)
 |_=>True
theorem yFu {A c b st}(h:st.ev c=.c (.bool b)):IL A c b st=st:=by
 unfold IL;split
 ·rw[OO h]
 ·rfl
section
variable {nl:Bool} {E:Env} {A:zY} {k pre na nt:Nat} {a0:Nat→Value} {R:Type} {M0:zI} {w0:World} {out:R}
theorem O4 {a w st}(r:vF false na nt a0 M0 w0 st a w):∀{l x},yr pre l st=some x→vF false na nt a0 M0 w0 (EX (pre+fD) l x) a w
 |[S],x,h=>Js r h
 |S::T::l,x,h=>by
  unfold yr at h;split at h
  ·rename_i d hd;cases h;exact Js r hd
  ·split at h
   ·rename_i d hd;cases h;exact O4 r (l:=T::l) hd
   ·cases h
theorem yAz (hE:fb E)(hS:il E.sums)(hm:E.P.follows .mixedOrders=true)(Jd:nl=true→A.loops=[]):∀c,wA E.P A pre na nt c→∀st K a w Q,g9 E A k pre na nt c st K=some out→vF nl na nt a0 M0 w0 st a w→
  (∀e bF a' w',vF nl na nt a0 M0 w0 bF a' w'→K e bF=some out→Q e.toExit a' w')→c.wp E.P Q a w:=by
 intro c
 induction c with
 |skip=>exact fun _ st K a w Q h r hK=>wp_skip (hK .normal st a w r h)
 |region id ops draw=>
  intro _ st K a w Q h r hK;cases draw with
  |true=>
   cases he:Ed ops with
   |false=>simp only[g9,he] at h;cases h
   |true=>
    simp only[g9,he] at h;exact vDl hE hS hm he h r fun bF a' w' r' h'=>hK .normal bF a' w' r' h'
  |false=>
   have:=ZL hE (Q:=Q) _ _ _ _ a w (by grind) h r fun bF a' w' r' h'=>hK .normal bF a' w' r' h'
   refine wp_region ?_;have e:(ops.toList.zipIdx.map fun p=>(p.2,p.1)).map (·.1)=List.range ops.size:=by
    rw[List.map_map];have e2:((fun x:Nat×Oper=>x.1)∘fun p:Oper×Nat=>(p.2,p.1))=Prod.snd:=rfl;rw[e2,List.zipIdx_map_snd,←List.range_eq_range'];simp
   simp_all
 |seq x y O5 O6=>
  intro hL st K a w Q h r hK;simp only[g9] at h;refine wp_seq (O5 hL.1 st _ a w _ h r fun e bF a' w' r' h'=>?_);cases e with
  |normal=>exact O6 hL.2 bF K a' w' Q h' r' hK
  |ret=>exact hK .ret bF a' w' r' h'
  |exit id=>exact hK (.exit id) bF a' w' r' h'
 |cond c x y O5 O6=>
  intro hL st K a w Q h r hK;simp only[g9] at h;split at h
  ·rename_i t ht;obtain⟨M,_,_,_,_,hv⟩:=r.ex;have hc:=ZH hv c;rw[ht] at hc;refine wp_cond (t:=t) hc ?_;cases t with
   |true=>
    rw[yFu ht,cond_true] at h;exact O5 hL.1 st K a w Q h r hK
   |false=>
    rw[yFu ht,cond_false] at h;exact O6 hL.2 st K a w Q h r hK
  ·cases h
 |block id b ih=>
  intro hL st K a w Q h r hK;simp only[g9] at h;refine wp_block (ih hL st _ a w _ h r fun e bF a' w' r' h'=>?_);cases e with
  |normal=>exact hK .normal bF a' w' r' h'
  |ret=>exact hK .ret bF a' w' r' h'
  |exit i=>
   show if i=id then Q .normal a' w' else Q (.exit i) a' w'
   dsimp only at h';cases e:Nat.beq i id with
   |true=>
    rw[e] at h';rw[if_pos (by simpa using e)];exact hK .normal bF a' w' r' h'
   |false=>
    rw[e] at h';rw[if_neg (fun e'=>by simp_all)];exact hK (.exit i) bF a' w' r' h'
 |loop b ih=>
  intro hL st K a w Q h r hK;simp only[g9] at h;split at h
  ·rename_i hN;refine Z7 (fun n a w=>∃st,vF nl na nt a0 M0 w0 st a w∧ND (g9 E A k pre na nt b) n st K=some out) (fun n a w ⟨st,r,hi⟩=>?_) ⟨st,r,h⟩;cases n with
   |zero=>cases hi
   |succ n=>
    refine ih (hL.2 hN) st _ a w _ hi r fun e bF a' w' r' h'=>?_
    cases e with
    |normal=>exact⟨n,by simp,bF,r',h'⟩
    |ret=>exact hK .ret bF a' w' r' h'
    |exit id=>exact hK (.exit id) bF a' w' r' h'
  ·rename_i L hN;split at h
   ·cases h
   ·rename_i d hd;obtain⟨x,hx,h⟩:=Option.bind_eq_some_iff.1 h;cases nl with
    |true=>
     unfold rS at hN;grind
    |false=>exact hL.1 L hN k d x hx a0 M0 w0 a w Q (O4 r hd) fun o a' w' ho r'=>hK _ _ a' w' r' (Z8 (by simp_all))
 |exit id=>exact fun _ st K a w Q h r hK=>wp_exit (hK (.exit id) st a w r h)
 |ret=>exact fun _ st K a w Q h r hK=>wp_ret (hK .ret st a w r h)
 |_=>nofun
theorem qUd {a b}(h:Nx a b=true):a=b:=by
 cases a<;>cases b<;>first|rfl|(cases h)|skip
 rw[Nat.eq_of_beq_eq_true h]
theorem yOe {a w st e}(r:vF false na nt a0 M0 w0 st a w):∀{l x},Ef pre l e st=some x→(uY (pre+fD) l x).1=e∧vF false na nt a0 M0 w0 (uY (pre+fD) l x).2 a w
 |[p],x,h=>by
  obtain⟨he,h⟩:=lf h;exact⟨qUd he,Js r h⟩
 |p::q::l,x,h=>by
  unfold Ef at h;split at h
  ·rename_i d hd;cases h;obtain⟨he,hd⟩:=lf hd;exact⟨qUd he,Js r hd⟩
  ·split at h
   ·rename_i d hd;cases h;exact yOe r (l:=q::l) hd
   ·cases h
theorem vKi (hE:fb E)(hS:il E.sums)(hm:E.P.follows .mixedOrders=true){b ins outs}(hL:wA E.P A pre na nt b){X} ko elim (hX:∀o R K,elim (pre+fD) (ko o) R K=yt (pre+fD) outs o K)
  (rec:Nat→Nat→pb ins→Option X) (h0:∀k d,rec k 0 d=none)
  (aH:∀k n d,rec k (n+1) d=IK (pre+fD) ins d fun st=>g9 E A k pre na nt b st (Ym pre ins outs ko (rec k n))):zU E.P pre na nt b ⟨ins,outs,X,fun k d=>rec k k d,elim⟩:=by
 intro k d x hx a0 M0 w0 a w Q r hQ;refine Z7 (fun n a w=>∃d,vF false na nt a0 M0 w0 (EX (pre+fD) ins d) a w∧rec k n d=some x) (fun n a w ⟨d,r,hi⟩=>?_) ⟨d,r,hx⟩;cases n with
 |zero=>simp_all
 |succ n=>
  rw[aH k n d] at hi;refine yAz hE hS hm (by simp) b hL _ _ a w _ (Z9 hi) r fun e bF a' w' r' h'=>?_
  have out:∀e,(match Ef pre outs e bF with|some o=>some (ko o)|none=>none)=some x→Q e.toExit a' w':=fun e h'=>by
   split at h'
   ·rename_i o ho;obtain⟨h1,h2⟩:=yOe (pre:=pre) r' ho;grind
   ·cases h'
  cases e with
  |normal=>
   have h':(match yr pre ins bF with|some d=>rec k n d|none=>none)=some x:=h';split at h'
   ·rename_i d' hd;exact⟨n,by simp,d',O4 r' hd,h'⟩
   ·cases h'
  |ret=>exact out .ret h'
  |exit id=>exact out (.exit id) h'
theorem vFi fn tmps:results fn tmps=(do let vs←fn.results.mapM (Jt tmps);pure (if h:vs.size=1 then vs[0] else .tuple vs)):=rfl
theorem vOt (hE:fb E)(hS:il E.sums)(hm:E.P.follows .mixedOrders=true){st}{a:Act}{w x v M}(hM:M.h=st.h)(hH:M.H=w.heap)(ok:Ok M)(ht:∀t,zP M (st.t t) (a.tmps.getD t undef))(h:rT E st x=some v):
  ∃rv,(Jt a.tmps x).run E.P w=.ok rv w∧zP M v rv:=by
 unfold rT at h;split at h
 ·rename_i t;cases h;exact⟨_,rfl,ht t⟩
 ·rename_i c t;split at h
  ·rename_i id off hc;split at h
   ·split at h
    ·rename_i vs dU;have hv:=ht c;rw[hc] at hv;obtain⟨C,B,hC,hB,e⟩:=hv;obtain⟨C',aw,hO⟩:=ok.obj id _ (by rw[hM];omega);rw[hC] at aw;cases aw;obtain⟨B',ic,aA⟩:=Yw hO;rw[hB] at ic;cases ic;obtain⟨rv2,ld,cT⟩:∃rv,(loadVar t ⟨B,0+off,none⟩).run E.P w=.ok rv w∧zP M v rv:=Yv ok hH aA dU h;refine⟨rv2,?_,cT⟩;simp  at ld;unfold Jt;dsimp only;rw[e];simp[asAddr,ld]
    ·cases h
   ·cases h
  ·cases h
theorem yYe {M v p rv}(h:yu v=some p)(hv:zP M v rv):rU M p rv:=by
 unfold yu at h;split at h
 ·cases h;exact hv
 ·cases h;exact hv
 ·cases h
theorem yGe {M}:∀{vs xs rs},zK (fun a b=>yu a=some b) vs xs→zK (zP M) vs rs→zK (rU M) xs rs
 |[],[],[],_,_=>trivial
 |_::_,_::_,_::_,h,k=>⟨yYe h.1 k.1,yGe h.2 k.2⟩
theorem yAs {st}:∀(l:List ResultVar) xs,l.mapM (fun r=>(rT E st r).bind yu)=some xs→∃vs,l.mapM (rT E st)=some vs∧vs.mapM yu=some xs
 |[],xs,h=>by simp_all
 |x::l,xs,h=>by
  simp only[List.mapM_cons,Option.bind_eq_bind,Option.bind_eq_some_iff] at h;obtain⟨p,⟨v,h1,h2⟩,ps,h3,h4⟩:=h;obtain⟨vs,k1,k2⟩:=yAs l ps h3;simp_all
theorem vGm (hE:fb E)(hS:il E.sums)(hm:E.P.follows .mixedOrders=true){fn st}{a:Act}{w v M}(hM:M.h=st.h)(hH:M.H=w.heap)(ok:Ok M)(ht:∀t,zP M (st.t t) (a.tmps.getD t undef))(h:IM E fn st=some v):
  ∃rv,(results fn a.tmps).run E.P w=.ok rv w∧zP M v rv:=by
 have one:=fun x v=>vOt hE hS hm (x:=x) (v:=v) hM hH ok ht
 have key:∀(l:List ResultVar) (vs:List zT),l.mapM (rT E st)=some vs→∃rs:List Value,(l.mapM (Jt a.tmps)).run E.P w=.ok rs w∧zK (zP M) vs rs:=by
  intro l
  induction l with
  |nil=>exact fun vs h=>by simp at h;subst h;exact⟨[],rfl,trivial⟩
  |cons x l ih=>
   intro vs h;simp[Option.bind_eq_some_iff] at h;obtain⟨v,h1,N2,h2,h3⟩:=h;cases h3;obtain⟨rv,k1,k2⟩:=one x v h1;obtain⟨rs,k3,k4⟩:=ih N2 h2;refine⟨rv::rs,?_,k2,k4⟩;simp_all
 have run:∀(vs:List zT),fn.results.toList.mapM (rT E st)=some vs→∃rs:List Value,(results fn a.tmps).run E.P w=.ok (if h:rs.length=1 then rs[0] else .tuple rs.toArray) w∧zK (zP M) vs rs:=fun vs h=>by
  obtain⟨rs,k1,k2⟩:=key _ vs h;refine⟨rs,?_,k2⟩;rw[vFi,Array.mapM_eq_mapM_toList];simp_all
 unfold IM at h;split at h
 ·cases h;obtain⟨rs,k1,k2⟩:=run [] (by simp_all);cases rs with
  |cons _ _=>exact k2.elim
  |nil=>exact⟨_,k1,#[],rfl,trivial⟩
 ·obtain⟨rs,k1,k2⟩:=run [v] (by simp_all)
  match rs,k2 with
  |[r],k2=>exact⟨_,k1,k2.1⟩
 ·split at h
  ·rename_i xs EM;cases h;obtain⟨vs,k1,k2⟩:=yAs _ _ EM;obtain⟨rs,r1,r2⟩:=run vs k1;have hlen:rs.length≠1:=fun e=>by
    have e1:=r2.length;have e2:=(EL _ _ _ k1).length;have h3:fn.results.toList.length=1:=by omega
    match hl:fn.results.toList,h3 with
    |[x],_=>simp_all
   rw[dif_neg hlen] at r1;exact⟨_,r1,rs.toArray,rfl,yGe (EL _ _ _ k2) r2⟩
  ·cases h
theorem O7 (hE:fb E)(hS:il E.sums)(hm:E.P.follows .mixedOrders=true){f fn}(hf:E.P.funcs[f]? =some fn)(hL:∀c,fn.body=some c→wA E.P A pre na fn.ntmps c){args h K}(aW:ja E A k pre na fn args h K=some out){M w vs}(hh:M.h=h)(hH:M.H=w.heap)(ok:Ok M)
  (hv:zK (zP M) args vs.toList):Calls E.P f vs w fun
   |.returned rv,w'=>∃(M':zI) (v:zT) (st:St),K v st=some out∧M'.h=st.h∧M'.H=w'.heap∧Ok M'∧gH M M'∧(A.loops=[]→Jk M M')∧zP M' v rv∧w'.os=w.os∧w'.tape=w.tape∧w'.output=w.output∧
     (∀t,t<na→zP M' (st.t t) (vs.getD t undef))
   |_,_=>False:=by
 unfold ja at aW;cases hb:fn.body with
 |none=>simp_all
 |some c=>
  rw[hb] at aW;dsimp only at aW;cases hle:Nat.ble args.length fn.ntmps with
  |false=>simp_all
  |true=>
   rw[hle] at aW;rw[cond_true] at aW;have hl:=hv.length;have hle:args.length≤fn.ntmps:=Nat.le_of_ble_eq_true hle;have df:vs.size≤fn.ntmps:=by simp at hl;omega
   have EY:∀t,zP M (IN args t) ((vs++Array.replicate (fn.ntmps-vs.size) undef).getD t undef):=fun t=>by
    unfold IN;by_cases ht:t<args.length
    ·have O8:t<vs.size:=by simp at hl;omega
     have:=hv.get t ht (by simpa using O8);simp only[List.getD_eq_getElem?_getD,List.getElem?_eq_getElem ht,Option.getD_some];simp only[Array.getD_eq_getD_getElem?,Array.getElem?_append_left O8,Array.getElem?_eq_getElem O8,Option.getD_some]
     simpa using this
    ·simp only[List.getD_eq_getElem?_getD,List.getElem?_eq_none (Nat.not_lt.1 ht),Option.getD_none];show _=undef;simp;grind
   have r:vF A.loops.isEmpty na fn.ntmps (fun t=>(vs++Array.replicate (fn.ntmps-vs.size) undef).getD t undef) M w {t:=IN args,h:=h} {tmps:=vs++Array.replicate (fn.ntmps-vs.size) undef,defers:=[]} w:=
    ⟨⟨M,hh,hH,ok,⟨.refl M,fun _ _ C h=>⟨C,h,rfl⟩⟩,EY⟩,rfl,by simp;omega,rfl,rfl,rfl,fun _ _=>rfl⟩
   refine calls_of_wp hf hb (yAz hE hS hm (by simp) c (hL c hb) _ _ _ _ _ aW r fun e bF a' w' r' hK=>?_);obtain⟨M',q1,q2,q3,q4,q5⟩:=r'.ex;have fin:∀v,IM E fn bF=some v→K v bF=some out→a'.defers=[]∧∃rv,(results fn a'.tmps).run E.P w'=.ok rv w'∧∃(M':zI) (v:zT) (st:St),K v st=some out∧M'.h=st.h∧M'.H=w'.heap∧Ok M'∧gH M M'∧(A.loops=[]→Jk M M')∧zP M' v rv∧w'.os=w.os∧w'.tape=w.tape∧w'.output=w.output∧
     (∀t,t<na→zP M' (st.t t) (vs.getD t undef)):=fun v ir hK=>by
    obtain⟨rv,k1,k2⟩:=vGm hE hS hm q1 q2 q3 q5 ir;refine⟨r'.defers,rv,k1,M',v,bF,hK,q1,q2,q3,q4.g,fun h=>q4.k (by grind),k2,r'.os,r'.tape,r'.output,fun t ht=>?_⟩;have:=q5 t;rw[r'.keep t ht] at this;have e:(vs++Array.replicate (fn.ntmps-vs.size) undef).getD t undef=vs.getD t undef:=by
     by_cases h1:t<vs.size
     ·simp[Array.getD_eq_getD_getElem?,Array.getElem?_append_left h1]
     ·simp;grind
    simp_all
   cases e with
   |exit id=>cases hK
   |normal=>
    dsimp only at hK;split at hK
    ·rename_i v ir;exact fin v ir hK
    ·cases hK
   |ret=>
    dsimp only at hK;split at hK
    ·rename_i v ir;exact fin v ir hK
    ·cases hK
end
inductive PC where
 |int (k:IntKind)|bool|dat (sh:Bool) (t:Ty)|fn (f:Nat)
 |nil|nilp
abbrev PC.den:PC→Type
 |.int _=>Int|.bool=>Bool|.dat _ t=>List t.den|.fn _=>Unit|.nil=>Unit|.nilp=>Unit
abbrev PL:List PC→Type
 |[]=>Unit
 |p::l=>p.den×PL l
inductive AS where
 |c (p:PC)|agg (l:List PC)|ptr (l:List PC)|fn (f:Nat) (bp:List (List PC))
def AS.cells:AS→List PC
 |.c p=>[p]
 |.agg l=>l
 |.ptr l=>l
 |.fn _ bp=>bp.flatten
abbrev AD (l:List AS):Type:=PL (l.flatMap AS.cells)
def uZ (h:Hp)(t:Ty):zV→Option (List t.den)
 |.nsl=>some []
 |c=>match gZ h c with
  |some ⟨s,xs⟩=>fx s t xs
  |none=>none
def pG (h:Hp):(p:PC)→zV→Option p.den
 |.int k,.int j n=>bif jW j k then some n else none
 |.bool,.bool b=>some b
 |.dat false t,c=>uZ h t c
 |.dat true t,.fsl true s xs=>fx s t xs
 |.dat true t,.nsl=>some []
 |.fn f,.fn g []=>bif Nat.beq f g then some () else none
 |.nil,.nsl=>some ()
 |.nilp,.nilp=>some ()
 |_,_=>none
def u9 (h:Hp):(l:List PC)→List zV→Option (PL l)
 |[],[]=>some ()
 |p::l,c::cs=>match pG h p c,u9 h l cs with
  |some d,some ds=>some (d,ds)
  |_,_=>none
 |_,_=>none
def zx (h:Hp)(id:Nat):Option (List zV):=match h id with
 |some (.box _ cells)=>some cells
 |some (.robox cells)=>some cells
 |_=>none
def pH (h:Hp):List (List PC)→List Nat→Option (List zV)
 |[],[]=>some []
 |l::ls,id::ids=>match zx h id,pH h ls ids with
  |some cells,some rest=>bif Nat.beq cells.length l.length then some (cells++rest) else none
  |_,_=>none
 |_,_=>none
def AS.get (h:Hp):AS→zT→Option (List zV)
 |.c _,.c x=>some [x]
 |.agg l,.agg xs=>bif Nat.beq xs.length l.length then some xs else none
 |.ptr l,.c (.ptr id 0)=>pH h [l] [id]
 |.fn f bp,.c (.fn g ids)=>bif Nat.beq f g then pH h bp ids else none
 |_,_=>none
def nS (h:Hp):List AS→List zT→Option (List zV)
 |[],[]=>some []
 |s::l,a::as=>match s.get h a,nS h l as with
  |some cs,some rest=>some (cs++rest)
  |_,_=>none
 |_,_=>none
def vd (h:Hp) l (as:List zT):Option (AD l):=match nS h l as with
 |some cs=>u9 h (l.flatMap AS.cells) cs
 |none=>none
def zy:(p:PC)→p.den→zV
 |.int k,n=>.int k n
 |.bool,b=>.bool b
 |.dat sh t,xs=>.fsl sh t xs
 |.fn f,_=>.fn f []
 |.nil,_=>.nsl
 |.nilp,_=>.nilp
def vI:(l:List PC)→PL l→List zV
 |[],_=>[]
 |p::l,d=>zy p d.1::vI l d.2
def Ju:List (List PC)→List zV→List (List zV)
 |[],_=>[]
 |l::ls,cs=>cs.take l.length::Ju ls (cs.drop l.length)
def AS.mk (n:Nat)(cs:List zV):AS→zT
 |.c _=>match cs with|x::_=>.c x|[]=>.undef
 |.agg _=>.agg cs
 |.ptr _=>.c (.ptr n 0)
 |.fn f bp=>.c (.fn f ((List.range bp.length).map (n+·)))
def AS.boxes (cs:List zV):AS→List (List zV)
 |.ptr _=>[cs]
 |.fn _ bp=>Ju bp cs
 |_=>[]
def jv:List AS→List zV→Nat→List zT×List (List zV)
 |[],_,_=>([],[])
 |s::l,cs,n=>
  let aj:=cs.take s.cells.length;let bs:=s.boxes aj;let rest:=jv l (cs.drop s.cells.length) (n+bs.length)
  (s.mk n aj::rest.1,bs++rest.2)
def jw (bs:List (List zV)):Hp:=fun n=>match bs[n]? with
 |some cells=>some (.robox cells)
 |none=>none
def mI l (d:AD l):List zT×Hp:=
 let r:=jv l (vI (l.flatMap AS.cells) d) 0
 (r.1,jw r.2)
inductive RC where
 |int (k:IntKind)|bool|fro (t:Ty)|own (t:Ty)|mat
 |jun
 |map
 |nilp|link (j:Nat)|nil
abbrev RC.den:RC→Type
 |.int _=>Int|.bool=>Bool|.fro t=>List t.den|.own t=>List t.den|.mat=>List (List Int)|.jun=>Nat|.map=>List (Int×Bool)|.nilp=>Unit|.link _=>Unit|.nil=>Unit
abbrev RL:List RC→Type
 |[]=>Unit
 |r::l=>r.den×RL l
inductive RS where
 |c (r:RC)|agg (l:List RC)|tup (l:List (Bool×List RC))
def RS.cells:RS→List RC
 |.c r=>[r]
 |.agg l=>l
 |.tup l=>l.flatMap (·.2)
def O9:List (Bool×List RC)→List (Bool×List zV)→Option (List zV)
 |[],[]=>some []
 | (b, l) :: ls, (g, cs) :: rest => bif (bif b then g else !g && Nat.beq cs.length 1) && Nat.beq cs.length l.length then (match O9 ls rest with
   |some r=>some (cs++r)
   |none=>none) else none
 |_,_=>none
def RS.get:RS→zT→Option (List zV)
 |.c _,.c x=>some [x]
 |.agg l,.agg xs=>bif Nat.beq xs.length l.length then some xs else none
 |.tup l,.tup xs=>O9 l xs
 |_,_=>none
def Pb:List (Bool×List RC)→List zV→List (Bool×List zV)
 |[],_=>[]
 |(b,l)::ls,cs=>(b,cs.take l.length)::Pb ls (cs.drop l.length)
def RS.mk (cs:List zV):RS→zT
 |.c _=>match cs with|x::_=>.c x|[]=>.undef
 |.agg _=>.agg cs
 |.tup l=>.tup (Pb l cs)
def jY (h:Hp):List Bool→List zV→Option (List zV×yV)
 |true::l,c::cs=>match lM h c,jY h l cs with
  |some (c,u),some (cs,us)=>some (c::cs,u++us)
  |_,_=>none
 |false::l,c::cs=>match jY h l cs with
  |some (cs,us)=>some (c::cs,us)
  |none=>none
 |_,cs=>some (cs,[])
def RC.isFro:RC→Bool
 |.fro _=>true
 |_=>false
def PC.isKept:PC→Bool
 |.dat true _=>true
 |_=>false
def mJ (h:Hp):(r:RC)→zV→Option r.den
 |.int k,.int j n=>bif jW j k then some n else none
 |.bool,.bool b=>some b
 |.fro t,.fsl true s xs=>fx s t xs
 |.fro t,.nsl=>some []
 |.own t,.osl id none=>match h id with
  |some (.arr true s xs)=>fx s t xs
  |_=>none
 |.own t,.osl id (some (0,n))=>match h id with
  |some (.arr true s xs)=>fx s t (xs.take n)
  |_=>none
 |.own t,.nsl=>some []
 |.mat,.osl id none=>match h id with
  |some (.mat _ xs)=>some xs
  |some (.pmat _ xs n)=>bif Nat.beq xs.length n then some xs else none
  |_=>none
 |.mat,.nsl=>some []
 |.jun,.osl id none=>match h id with
  |some (.arr true (.sl (.int .i64)) xs)=>some xs.length
  |_=>none
 |.jun,.nsl=>some 0
 |.map,.map id=>match h id with
  |some (.imap cL)=>some cL
  |_=>none
 |.nilp,.nilp=>some ()
 |.link _,.ptr _ 0=>some ()
 |.nil,.nsl=>some ()
 |_,_=>none
def iu (h:Hp):(l:List RC)→List zV→Option (RL l)
 |[],[]=>some ()
 |r::l,c::cs=>match mJ h r c,iu h l cs with
  |some d,some ds=>some (d,ds)
  |_,_=>none
 |_,_=>none
def vM:List RC→List zV→List Nat
 |.own _::l,.osl id _::cs=>id::vM l cs
 |.mat::l,.osl id _::cs=>id::vM l cs
 |.jun::l,.osl id _::cs=>id::vM l cs
 |.map::l,.map id::cs=>id::vM l cs
 |_::l,_::cs=>vM l cs
 |_,_=>[]
def EZ (h:Hp)(s:RS)(v:zT):Option (RL s.cells):=match s.get v with
 |some cs=>match jY h (s.cells.map RC.isFro) cs with
  |some (cs,u)=>bif o0 (vM s.cells cs) then iu (qF h u) s.cells cs else none
  |none=>none
 |none=>none
def kB (rs:RS){X:Type}(unpack:RL rs.cells→X)(v:zT)(st:St):Option X:=match EZ st.h rs v with
 |some d=>some (unpack d)
 |none=>none
def nT (nm:Nat):(r:RC)→r.den→zV×yV
 |.int k,n=>(.int k n,[])
 |.bool,b=>(.bool b,[])
 |.fro t,xs=>(.fsl true t xs,[])
 |.own t,xs=>(.osl nm none,[(nm,.arr true t xs)])
 |.mat,xs=>(.osl nm none,[(nm,.mat 0 xs)])
 |.jun,n=>(.osl nm none,[(nm,.pmat 0 [] n)])
 |.map,cL=>(.map nm,[(nm,.imap cL)])
 |.nilp,_=>(.nilp,[])
 |.link _,_=>(.undef,[])
 |.nil,_=>(.nsl,[])
def lW (nm:Nat):(l:List RC)→RL l→List zV×yV
 |[],_=>([],[])
 |r::l,d=>
  let x:=nT nm r d.1;let y:=lW (nm+1) l d.2
  (x.1::y.1,x.2++y.2)
def yBn (nm:Nat)(s:RS)(d:RL s.cells):zT×yV:=
 let r:=lW nm s.cells d
 (s.mk r.1,r.2)
def sn (h:Hp):Nat→Nat→Bool
 |_,0=>true
 |nm,n+1=>(match h nm with|none=>true|some _=>false)&&sn h (nm+1) n
def so (h:Hp):AS→zT→Option (zT×yV)
 |.c p,.c x=>match jY h [p.isKept] [x] with
  |some ([x],u)=>some (.c x,u)
  |_=>none
 |.agg l,.agg xs=>match jY h (l.map PC.isKept) xs with
  |some (xs,u)=>some (.agg xs,u)
  |none=>none
 |_,a=>some (a,[])
def nU (h:Hp):List AS→List zT→Option (List zT×yV)
 |s::l,a::as=>match so h s a,nU h l as with
  |some (a,u),some (as,us)=>some (a::as,u++us)
  |_,_=>none
 |_,as=>some (as,[])
def lX as (rs:RS){X}(S:AD as→Option X)(pack:X→RL rs.cells)(nm:Nat)(args:List zT)(h:Hp):yL:=
 match nU h as args with
 |none=>.stuck
 |some (args,u)=>match vd (qF h u) as args with
  |some d=>bif sn h nm rs.cells.length&&Nat.ble rs.cells.length 100 then .call X (S d) (fun r=>((yBn nm rs (pack r)).1,u++(yBn nm rs (pack r)).2)) else .stuck
  |none=>.stuck
structure Lo (M Ml:zI):Prop where
 H:Ml.H=M.H
 F:Ml.F=fun b=>b<M.H.size
 G:Ml.G=M.G
theorem Pc {M M':zI}(ok:Ok M')(hH:M'.H=M.H){t}{xs:List t.den}{v}(h:qB M'.H M'.G (.sl t) xs (fun _=>some v)):qB M.H (fun b=>b<M.H.size) (.sl t) xs (fun _=>some v):=by
 refine yR (fun b hb=>?_) (by grind) _ _ _ _ (by simp) h;have:=ok.Flt b (ok.GF b hb);simp_all
theorem vHk {M}(ok:Ok M){c v t xs}(hv:zQ M c v)(h:gZ M.h c=some ⟨t,xs⟩):qB M.H (fun b=>b<M.H.size) (.sl t) xs (fun _=>some v):=by
 unfold gZ at h;split at h
 ·rename_i sh s ys;cases h;cases sh with
  |true=>exact yR (fun b hb=>ok.Flt b (ok.GF b hb)) (by simp) _ _ _ _ (fun _ _=>rfl) hv
  |false=>exact yR (fun b hb=>ok.Flt b hb) (by simp) _ _ _ _ (fun _ _=>rfl) hv
 ·rename_i id r;split at h
  ·rename_i own s ys ah;cases h;cases own with
   |false=>
    obtain⟨C,hC,hO⟩:=ok.obj _ _ ah;exact Pc ok rfl (uw hC hO hv)
   |true=>
    obtain⟨M',h1,h2,h3,h4⟩:=YA ok ah;obtain⟨C,hC,hO⟩:=h3.obj id _ (by rw[h2];exact yE _ _ _);exact Pc h3 h1 (uw hC hO (hv.ext h4.ext))
  ·rename_i ver ys ah;cases r with
   |some p=>cases h
   |none=>
    cases h;obtain⟨M',h1,h2,h3,h4⟩:=YC ok ah;obtain⟨C,hC,hO⟩:=h3.obj id _ (by rw[h2];exact yE _ _ _);exact Pc h3 h1 (uw (r:=none) hC hO (hv.ext h4.ext))
  ·cases h
 ·rename_i id i ver;split at h
  ·rename_i v' ys ah;cases eu:Nat.beq v' ver with
   |false=>simp_all
   |true=>
    rw[eu] at h;cases h;have e:v'=ver:=by simpa using eu
    subst e;obtain⟨C,hC,hO⟩:=ok.obj _ _ ah;obtain⟨C',aw,cc,_,aU⟩:=hv;rw[hC] at aw;cases aw;obtain⟨rb,rl,sf,nO⟩:=aU hO.1;by_cases hi:i<ys.length
    ·obtain⟨B,mB,v2,k1,k2,k3,k4,k5,k6⟩:=yy hO hi;rw[sf] at k3;cases k3;rw[show ys.getD i []=ys[i] by simp_all];simp only[qB];cases rb with
     |none=>
      obtain⟨rfl,h0⟩:=nO;grind
     |some R=>
      obtain⟨a,c,rfl,h1,h2,h3⟩:=nO;refine⟨_,_,c,rfl,rfl,h1,?_⟩;by_cases h0:ys[i].length=0
      ·simp_all
      ·have ha:a=0:=by omega
       subst ha;refine .inr ⟨R,0,rfl,?_,fun j hj=>?_⟩
       ·have:=k6 R rfl 0 (by omega);unfold yH at this;grind
       ·simp only[Ty.size];simp_all
    ·have:C.rows[i]? =none:=List.getElem?_eq_none (by have:=hO.2.2.2.1;omega);simp_all
  ·cases h
 ·cases h
theorem E0 {H F t}:qB H F (.sl t) ([]:List t.den) (fun _=>some (.slice none 0 0)):=⟨none,0,0,rfl,rfl,by simp,by simp⟩
theorem vJs {M}(ok:Ok M){c v t xs}(hv:zQ M c v)(h:uZ M.h t c=some xs):qB M.H (fun b=>b<M.H.size) (.sl t) xs (fun _=>some v):=by
 unfold uZ at h;split at h
 ·cases h;rw[show v=.slice none 0 0 from hv];exact E0
 ·split at h
  ·rename_i s ys hr;obtain⟨e,hx⟩:=iP h;subst e;subst hx;exact vHk ok hv hr
  ·cases h
def Tr (M:zI)(c c':zV):Prop:=∀v Ml,Lo M Ml→zQ M c v→zQ Ml c' v
theorem vJ3 {M}(ok:Ok M){p c d}(h:pG M.h p c=some d):Tr M c (zy p d):=by
 intro v Ml lo hv;unfold pG at h;split at h
 ·rename_i k j n;cases e:jW j k with
  |false=>simp_all
  |true=>rw[e] at h;cases h;rw[←oW e];exact hv
 ·cases h;exact hv
 ·have:=vJs ok hv h;show qB Ml.H Ml.F _ _ _;rw[lo.H,lo.F];omega
 ·obtain⟨e,hx⟩:=iP h;subst e;subst hx;show qB Ml.H Ml.G _ _ _;rw[lo.H,lo.G];exact hv
 ·cases h;rw[show v=.slice none 0 0 from hv];exact E0
 ·rename_i f g;cases e:Nat.beq f g with
  |false=>simp_all
  |true=>
   have:f=g:=by simp_all
   subst this;obtain⟨cv,rfl,hc⟩:=hv;refine⟨cv,rfl,?_⟩;generalize cv.toList=l at hc;cases l with
   |nil=>trivial
   |cons _ _=>exact hc.elim
 ·exact hv
 ·exact hv
 ·cases h
theorem yKo {M}(ok:Ok M):∀{l cs d},u9 M.h l cs=some d→zK (Tr M) cs (vI l d)
 |[],[],_,_=>trivial
 |p::l,c::cs,d,h=>by
  unfold u9 at h;split at h
  ·rename_i x xs h1 h2;cases h;exact⟨vJ3 ok h1,yKo ok h2⟩
  ·cases h
theorem Pd {M Ml}(lo:Lo M Ml):∀{cs aM vs},zK (Tr M) cs aM→zK (zQ M) cs vs→zK (zQ Ml) aM vs
 |[],[],[],_,_=>trivial
 |_::_,_::_,_::_,h,k=>⟨h.1 _ _ lo k.1,Pd lo h.2 k.2⟩
def sr (M:zI)(C:zZ)(cells:List zV):Prop:=∃B vals e,C.blk=some B∧C.rows=[]∧M.H[B]? =some (.cells vals e (0,0))∧zK (zQ M) cells vals.toList
theorem qVr {M}(ok:Ok M){id cells}(h:zx M.h id=some cells):∃C,M.κ id=some C∧sr M C cells:=by
 unfold zx at h;split at h
 ·rename_i own cs ah;cases h;obtain⟨C,hC,B,vals,e,h1,h2,h3,h4,_⟩:=ok.obj id _ ah;exact⟨C,hC,B,vals,e,h1,h2,h3,h4⟩
 ·rename_i cs ah;cases h;obtain⟨C,hC,B,vals,e,h1,h2,h3,h4,_⟩:=ok.obj id _ ah;exact⟨C,hC,B,vals,e,h1,h2,h3,h4⟩
 ·cases h
theorem sr.tr {M Ml}(lo:Lo M Ml){C cs aM}(h:sr M C cs)(ht:zK (Tr M) cs aM):sr Ml C aM:=by
 obtain⟨B,vals,e,h1,h2,h3,h4⟩:=h;exact⟨B,vals,e,h1,h2,by rw[lo.H];exact h3,Pd lo ht h4⟩
theorem Pe {M}(ok:Ok M):∀{ls ids cs aM},pH M.h ls ids=some cs→zK (Tr M) cs aM→cs.length=ls.flatten.length∧ids.length=ls.length∧
  ∃Cs:List zZ,zK (fun id C=>M.κ id=some C) ids Cs∧∀Ml,Lo M Ml→zK (sr Ml) Cs (Ju ls aM)
 |[],[],cs,aM,h,ht=>by cases h;exact⟨rfl,rfl,[],trivial,fun _ _=>trivial⟩
 |l::ls,id::ids,cs,aM,h,ht=>by
  unfold pH at h;split at h
  ·rename_i cells rest h1 h2;obtain⟨hl,h⟩:cells.length=l.length∧cells++rest=cs:=by
    cases e:Nat.beq cells.length l.length with
    |false=>simp_all
    |true=>simp_all
   subst h;have lY:=zK.take l.length ht;have lg:=zK.drop l.length ht;rw[←hl,List.take_left] at lY;rw[←hl,List.drop_left] at lg;obtain⟨C,hC,hB⟩:=qVr ok h1;obtain⟨k1,k2,Cs,k3,k4⟩:=Pe ok h2 lg;refine⟨by simp_all,by simp[k2],C::Cs,⟨hC,k3⟩,fun Ml lo=>⟨?_,?_⟩⟩
   ·rw[←hl];exact hB.tr lo lY
   simp_all
  ·cases h
theorem yTl {M}(ok:Ok M){s:AS}{a v cs aM n}(hv:zP M a v)(h:s.get M.h a=some cs)(ht:zK (Tr M) cs aM):
  ∃Cs:List zZ,(∀Ml,Lo M Ml→zK (sr Ml) Cs (s.boxes aM))∧(∀Ml,Lo M Ml→(∀i C,Cs[i]? =some C→Ml.κ (n+i)=some C)→zP Ml (s.mk n aM) v):=by
 unfold AS.get at h;split at h
 ·cases h
  match aM,ht with
  |[c'],ht=>exact⟨[],fun _ _=>trivial,fun Ml lo _=>ht.1 v Ml lo hv⟩
 ·rename_i l xs;cases e:Nat.beq xs.length l.length with
  |false=>simp_all
  |true=>
   rw[e] at h;cases h;obtain⟨vs,rfl,hx⟩:=hv;exact⟨[],fun _ _=>trivial,fun Ml lo _=>⟨vs,rfl,Pd lo ht hx⟩⟩
 ·rename_i l id;have:=Pe ok h ht;obtain⟨k1,k2,Cs,k3,k4⟩:=this;obtain⟨C,B,hC,hB,e⟩:=hv;have hl:aM.length=l.length:=by rw[←ht.length,k1];simp
  match Cs,k3 with
  |[C'],k3=>
   have e':C'=C:=by
    have:M.κ id=some C':=k3.1;simp_all
   subst e';refine⟨[C'],fun Ml lo=>?_,fun Ml lo hκ=>⟨C',B,hκ 0 C' rfl,hB,e⟩⟩;have:=k4 Ml lo;simp[Ju] at this;rw[List.take_of_length_le (by omega)] at this;exact this
 ·rename_i f bp g ids;cases e:Nat.beq f g with
  |false=>simp_all
  |true=>
   rw[e] at h;have Pf:f=g:=by simp_all
   subst Pf;obtain⟨k1,k2,Cs,k3,k4⟩:=Pe ok h ht;refine⟨Cs,k4,fun Ml lo hκ=>?_⟩;obtain⟨cv,rfl,hc⟩:=hv;refine⟨cv,rfl,?_⟩;have l1:=k3.length;have l2:=hc.length;refine zK.of_get (by simp_all) fun i h1 h2=>?_
   simp;have hi:i<ids.length:=by omega
   have bE:i<Cs.length:=by omega
   obtain⟨C,B,q1,q2,q3⟩:=hc.get i hi h2;have q4:=k3.get i hi bE;simp_all
 ·cases h
theorem Pg {h}:∀{ls ids cs},pH h ls ids=some cs→cs.length=ls.flatten.length
 |[],[],cs,e=>by cases e;rfl
 |l::ls,id::ids,cs,e=>by
  unfold pH at e;split at e
  ·rename_i cells rest h1 h2;cases el:Nat.beq cells.length l.length with
   |false=>simp_all
   |true=>
    rw[el] at e;cases e;have:cells.length=l.length:=by simp_all
    simp[this,Pg h2]
  ·cases e
theorem vC4 {h}{s:AS}{a cs}(e:s.get h a=some cs):cs.length=s.cells.length:=by
 unfold AS.get at e;split at e
 ·cases e;rfl
 ·rename_i l xs;cases el:Nat.beq xs.length l.length with
  |false=>simp_all
  |true=>rw[el] at e;cases e;exact Nat.eq_of_beq_eq_true el
 ·rw[Pg e];simp[AS.cells]
 ·rename_i f bp g ids;cases el:Nat.beq f g with
  |false=>simp_all
  |true=>rw[el] at e;exact Pg e
 ·cases e
theorem yEx {M}(ok:Ok M):∀{l as vs cs aM n},zK (zP M) as vs→nS M.h l as=some cs→zK (Tr M) cs aM→
  ∃Cs:List zZ,(∀Ml,Lo M Ml→zK (sr Ml) Cs (jv l aM n).2)∧(∀Ml,Lo M Ml→(∀i C,Cs[i]? =some C→Ml.κ (n+i)=some C)→zK (zP Ml) (jv l aM n).1 vs)
 |[],[],[],cs,aM,n,_,_,_=>⟨[],fun _ _=>trivial,fun _ _ _=>trivial⟩
 |s::l,a::as,v::vs,cs,aM,n,hv,h,ht=>by
  unfold nS at h;split at h
  ·rename_i ky rest h1 h2;cases h;have hl:=vC4 h1;have lY:=zK.take s.cells.length ht;have lg:=zK.drop s.cells.length ht;rw[←hl,List.take_left,hl] at lY;rw[←hl,List.drop_left,hl] at lg;obtain⟨C1,k1,k2⟩:=yTl ok (n:=n) hv.1 h1 lY;obtain⟨C2,k3,k4⟩:=yEx ok (n:=n+(s.boxes (aM.take s.cells.length)).length) hv.2 h2 lg;refine⟨C1++C2,fun Ml lo=>(k1 Ml lo).append (k3 Ml lo),fun Ml lo hκ=>⟨k2 Ml lo fun i C hi=>hκ i C ?_,k4 Ml lo fun i C hi=>?_⟩⟩
   ·grind
   ·have hb:=(k1 Ml lo).length;have:=hκ (C1.length+i) C (by grind);grind
  ·cases h
def zI.below (M:zI)(Cs:List zZ)(bs:List (List zV)):zI:={κ:=fun n=>Cs[n]?,F:=fun b=>b<M.H.size,G:=M.G,h:=jw bs,H:=M.H}
theorem zI.below_lo M Cs bs:Lo M (M.below Cs bs):=⟨rfl,rfl,rfl⟩
theorem zI.below_ok {M}(ok:Ok M){Cs bs}(h:zK (sr (M.below Cs bs)) Cs bs):Ok (M.below Cs bs)∧∀b,¬qJ (M.below Cs bs) b:=by
 have hr:∀id o,(M.below Cs bs).h id=some o→∃cells,bs[id]? =some cells∧o=.robox cells:=fun id o e=>by
  have e:jw bs id=some o:=e;unfold jw at e;grind
 have E1:∀b,¬qJ (M.below Cs bs) b:=fun b ⟨id,o,C,h1,h2,_,_⟩=>by
  obtain⟨cells,_,rfl⟩:=hr id o h1;cases h2
 refine⟨⟨fun id o e=>?_,fun id e=>?_,fun i j oi oj Ci Cj b _ h1 _ h3 _ _ _ _ _=>?_,by grind,fun b hb=>ok.Flt b (ok.GF b hb),fun b hb=>hb⟩,E1⟩
 ·obtain⟨cells,hc,rfl⟩:=hr id o e;have bd:id<bs.length:=by
   grind
  have hY:id<Cs.length:=by rw[h.length];omega
  obtain⟨B,vals,ev,q1,q2,q3,q4⟩:=h.get id hY bd;rw[List.getElem?_eq_getElem bd] at hc;cases hc;refine⟨Cs[id],List.getElem?_eq_getElem hY,B,vals,ev,q1,q2,q3,q4,?_⟩;exact(Array.getElem?_eq_some_iff.1 q3).1
 ·have e:jw bs id=none:=e;unfold jw at e;split at e
  ·cases e
  ·rename_i hc;show Cs[id]? =none;rw[List.getElem?_eq_none_iff] at hc⊢;rw[h.length];exact hc
 ·obtain⟨cells,_,rfl⟩:=hr i oi h1;cases h3
theorem vHu {M}(ok:Ok M){l as vs d}(hv:zK (zP M) as vs)(h:vd M.h l as=some d):
  ∃Ml:zI,Lo M Ml∧Ml.h=(mI l d).2∧Ok Ml∧(∀b,¬qJ Ml b)∧zK (zP Ml) (mI l d).1 vs:=by
 unfold vd at h;split at h
 ·rename_i cs hg;obtain⟨Cs,h1,h2⟩:=yEx ok (n:=0) hv hg (yKo ok h);have lo:=M.below_lo Cs (jv l (vI (l.flatMap AS.cells) d) 0).2;have:=zI.below_ok ok (h1 _ lo);exact⟨_,lo,rfl,this.1,this.2,h2 _ lo fun i C hi=>by rw[Nat.zero_add];exact hi⟩
 ·cases h
theorem ss {h0}:∀{l cs aM vs u M},Ok M→wF h0 M.h→zK (zQ M) cs vs→jY h0 l cs=some (aM,u)→
  ∃L:zI,L.H=M.H∧L.h=qF M.h u∧Ok L∧yS M L∧zK (zQ L) aM vs∧wF h0 L.h
 |[],cs,aM,vs,u,M,ok,hf,hc,h=>by
  cases cs<;>cases h<;>exact⟨M,rfl,rfl,ok,.refl M,hc,hf⟩
 |true::l,[],aM,vs,u,M,ok,hf,hc,h
 |false::l,[],aM,vs,u,M,ok,hf,hc,h=>by cases h;exact⟨M,rfl,rfl,ok,.refl M,hc,hf⟩
 |true::l,c::cs,aM,v::vs,u,M,ok,hf,hc,h=>by
  unfold jY at h;split at h
  ·rename_i c1 u1 ky nH e1 e2;cases h;obtain⟨M1,h1,h2,h3,h4,h5,h6,_⟩:=Ej ok hf hc.1 e1;obtain⟨M2,k1,k2,k3,k4,k5,k6⟩:=ss h3 h6 (hc.2.mono fun _ _ h=>h.ext h4.ext) e2;exact⟨M2,k1.trans h1,by rw[k2,h2,iO],k3,h4.trans k4,⟨h5.ext k4.ext,k5⟩,k6⟩
  ·cases h
 |false::l,c::cs,aM,v::vs,u,M,ok,hf,hc,h=>by
  unfold jY at h;split at h
  ·rename_i ky nH e2;cases h;obtain⟨M2,k1,k2,k3,k4,k5,k6⟩:=ss ok hf hc.2 e2;exact⟨M2,k1,k2,k3,k4,⟨hc.1.ext k4.ext,k5⟩,k6⟩
  ·cases h
def zI.add (M:zI)(nm:Nat)(o:Obj)(C:zZ):zI:={M with κ:=κset M.κ nm C,h:=qX M.h nm o}
theorem zI.add_ok {M}(ok:Ok M){nm}(aO:M.h nm=none){o C}(hO:yP (M.add nm o C) o C)(hb:∀b∈C.fp,¬qJ M b∧¬M.F b∧b<M.H.size):
  Ok (M.add nm o C)∧yF M (M.add nm o C)∧(∀b,qJ (M.add nm o C) b→qJ M b∨b∈C.fp):=by
 have x:yF M (M.add nm o C):=⟨fun id D h=>by
  have bj:id≠nm:=fun e=>by rw[e,ok.non nm aO] at h;cases h
  exact⟨D,by show κset M.κ nm _ id=_;rw[κset_ne _ _ bj];exact h,D.le_refl⟩,fun _ h=>h,fun _ h=>h,fun _ _=>rfl,fun _ _=>rfl,fun _ _=>rfl⟩
 refine⟨Ok.build ok x (fun id=>id=nm) (fun id h=>yJ _ _ h) (fun id h=>κset_ne _ _ h) (fun _ _ _ _ _ _ _ _ _=>rfl) (fun id o' D h1 h2 h3 h4 b bD=>(ok.own b ⟨id,o',D,h2,h3,h4,bD⟩).1) (Nat.le_refl _)
  (fun id o' e h=>?_) (fun id e h=>?_) (fun id o' D b e h1 h2 h3 h4=>?_) ok.GF ok.Flt,x,fun b bD=>?_⟩
 ·subst e;have e1:(M.add id o C).h id=some o:=yE _ _ _;rw[e1] at h;cases h;exact⟨_,κset_same _ _ _,hO⟩
 ·have e1:(M.add id o C).h id=some o:=yE _ _ _;simp_all
 ·subst e;have e1:(M.add id o C).κ id=some C:=κset_same _ _ _;rw[e1] at h3;cases h3;obtain⟨k1,k2,k3⟩:=hb b h4;refine⟨fun j oj Cj hj q1 q2 q3 q4=>k1 ⟨j,oj,Cj,?_,q2,?_,q4⟩,k2,k3⟩
  ·rw[←q1];exact(yJ _ _ hj).symm
  ·rw[←q3];exact(κset_ne _ _ hj).symm
 ·obtain⟨id,o',D,h1,h2,h3,h4⟩:=bD;by_cases e:id=nm
  ·have e1:(M.add id o C).κ id=some C:=κset_same _ _ _;simp_all
  ·exact .inl ⟨id,o',D,by rw[←h1];exact(yJ _ _ e).symm,h2,by rw[←h3];exact(κset_ne _ _ e).symm,h4⟩
structure Up (L Mc:zI):Prop where
 H:Mc.H=L.H
 G:Mc.G=L.G
theorem qWk {L Mc}(up:Up L Mc){t xs C}(h:yP L (.arr true t xs) C):yP Mc (.arr true t xs) C:=by
 obtain⟨h1,h2,h3,h4⟩:=h;refine⟨h1,h2,h3,?_⟩;rw[up.H,up.G];exact h4
theorem yW4 {L Mc}(up:Up L Mc){ver xs C}(h:yP L (.mat ver xs) C):yP Mc (.mat 0 xs) {C with ver:=0}:=by
 obtain⟨h1,h2⟩:=h;refine⟨rfl,?_⟩;rw[up.H];exact h2
theorem yUt {L Mc}(up:Up L Mc){ver n xs C}(h:yP L (.pmat ver xs n) C)(hn:xs.length=n):yP Mc (.mat 0 xs) {C with ver:=0}:=by
 obtain⟨h1,h2,h3,h4,h5,_,h6⟩:=h;refine⟨rfl,by rw[hn];exact h2,h3,h4,h5,?_⟩;rw[up.H];subst hn;simp_all
theorem vGc {L Mc}(up:Up L Mc){xs:List (List Int)}{C}(h:yP L (.arr true (.sl (.int .i64)) xs) C):yP Mc (.pmat 0 [] xs.length) {C with ver:=0}:=by
 obtain⟨h1,h2,h3,h4⟩:=h;have hr:=h3 rfl;refine⟨rfl,h1,h2,by simp_all,?_,by simp,?_⟩
 ·simp[zZ.fp];grind
 ·cases hB:C.blk with
  |none=>simp_all
  |some B=>
   rw[hB] at h4;obtain⟨vals,e,h5,_,h7,_⟩:=h4;refine⟨vals,e,by rw[up.H];exact h5,by simpa[Ty.size] using h7,by simp⟩
theorem yYs {L Mc}(fY:Ok L)(ok:Ok Mc)(up:Up L Mc){nm}(aO:Mc.h nm=none){r c d}(h:mJ L.h r c=some d)
  (hb:∀id∈vM [r] [c],∀C,L.κ id=some C→∀b∈C.fp,¬qJ Mc b∧¬Mc.F b∧b<Mc.H.size):
  ∃dQ:zI,dQ.H=Mc.H∧dQ.G=Mc.G∧dQ.F=Mc.F∧dQ.h=qF Mc.h (nT nm r d).2∧Ok dQ∧yF Mc dQ∧
   (∀b,qJ dQ b→qJ Mc b∨∃id∈vM [r] [c],∃C,L.κ id=some C∧b∈C.fp)∧∀v,zQ L c v→zQ dQ (nT nm r d).1 v:=by
 have same : (nT nm r d).2 = [] → (∀ v, zQ L c v → zQ Mc (nT nm r d).1 v) → _ := fun e hv => (⟨Mc,rfl,rfl,rfl,by rw[e];rfl,ok,.refl Mc,by grind,hv⟩:
  ∃dQ:zI,dQ.H=Mc.H∧dQ.G=Mc.G∧dQ.F=Mc.F∧dQ.h=qF Mc.h (nT nm r d).2∧Ok dQ∧yF Mc dQ∧
   (∀b,qJ dQ b→qJ Mc b∨∃id∈vM [r] [c],∃C,L.κ id=some C∧b∈C.fp)∧∀v,zQ L c v→zQ dQ (nT nm r d).1 v)
 unfold mJ at h;split at h
 ·rename_i k j n;cases e:jW j k with
  |false=>rw[e] at h;cases h
  |true=>
   rw[e] at h;cases h;exact same rfl fun v hv=>by rw[←oW e];exact hv
 ·cases h;exact same rfl fun v hv=>hv
 ·obtain⟨e,hx⟩:=iP h;subst e;subst hx;refine same rfl fun v hv=>?_
  show qB Mc.H Mc.G _ _ _;rw[up.H,up.G];exact hv
 ·cases h;refine same rfl fun v hv=>?_
  rw[show v=.slice none 0 0 from hv];exact E0
 ·rename_i t id;split at h
  ·rename_i s xs ah;obtain⟨e,hx⟩:=iP h;subst e;subst hx;obtain⟨C,hC,hO⟩:=fY.obj id _ ah;obtain⟨k1,k2,k3⟩:=zI.add_ok ok aO (o:=.arr true s xs) (C:=C) (qWk (Mc:=Mc.add nm (.arr true s xs) C) ⟨up.H,up.G⟩ hO) (hb id (by simp[vM]) C hC);refine⟨Mc.add nm (.arr true s xs) C,rfl,rfl,rfl,rfl,k1,k2,fun b bD=>(k3 b bD).imp (fun h=>h) fun h=>⟨id,by simp[vM],C,hC,h⟩,fun v hv=>?_⟩;obtain⟨C',aw,hS⟩:=hv;rw[hC] at aw;cases aw;refine⟨C,κset_same _ _ _,?_⟩;show wE Mc.H C 0 C.len v;rw[up.H];exact hS
  ·cases h
 ·rename_i t id n;split at h
  ·rename_i s xs ah;obtain⟨e,hx⟩:=iP h;subst e;subst hx;obtain⟨C,hC,hO⟩:=fY.obj id _ ah;let C':zZ:={C with len:=(xs.take n).length};have pn:yP (Mc.add nm (.arr true s (xs.take n)) C') (.arr true s (xs.take n)) C':=by
    obtain⟨q1,q2,q3,q4⟩:=qWk (Mc:=Mc.add nm (.arr true s (xs.take n)) C') ⟨up.H,up.G⟩ hO;refine⟨rfl,q2,q3,?_⟩;show match C.blk with
     |none=>_
     |some B=>_
    cases hB:C.blk with
    |none=>rw[hB] at q4;show xs.take n=[];rw[q4];simp
    |some B=>
     rw[hB] at q4;obtain⟨vals,e,r1,r2,r3,r4⟩:=q4;have hle:(xs.take n).length≤xs.length:=by rw[List.length_take];omega
     have:=Nat.mul_le_mul_right s.size hle;refine⟨vals,e,r1,r2,by omega,fun i hi=>?_⟩;rw[List.getElem_take];exact r4 i (by omega)
   obtain⟨k1,k2,k3⟩:=zI.add_ok ok aO (o:=.arr true s (xs.take n)) (C:=C') pn (hb id (by simp[vM]) C hC);refine⟨Mc.add nm (.arr true s (xs.take n)) C',rfl,rfl,rfl,rfl,k1,k2,fun b bD=>(k3 b bD).imp (fun h=>h) fun h=>⟨id,by simp[vM],C,hC,h⟩,fun v hv=>?_⟩;obtain⟨C1,fV,h1,hS,_⟩:=hv;rw[hC] at fV;cases fV;have hl:(xs.take n).length=n:=by rw[List.length_take,←hO.1];omega
   refine⟨C',κset_same _ _ _,?_⟩;show wE Mc.H C' 0 (xs.take n).length v;rw[hl,up.H];exact hS
  ·cases h
 ·rename_i t;cases h;obtain⟨k1,k2,k3⟩:=Mc.nilObj_ok ok aO t false;refine⟨Mc.nilObj nm (im t false) (ju t false),rfl,rfl,rfl,rfl,k1,k2,by grind,fun v hv=>?_⟩;rw[show v=.slice none 0 0 from hv];exact⟨_,κset_same _ _ _,none,0,rfl,rfl,rfl,rfl⟩
 ·rename_i id;split at h
  ·rename_i ver xs ah;cases h;obtain⟨C,hC,hO⟩:=fY.obj id _ ah;obtain⟨k1,k2,k3⟩:=zI.add_ok ok aO (o:=.mat 0 d) (C:={C with ver:=0}) (yW4 (Mc:=Mc.add nm (.mat 0 d) {C with ver:=0}) ⟨up.H,up.G⟩ hO) (hb id (by simp[vM]) C hC);refine⟨Mc.add nm (.mat 0 d) {C with ver:=0},rfl,rfl,rfl,rfl,k1,k2,fun b bD=>(k3 b bD).imp (fun h=>h) fun h=>⟨id,by simp[vM],C,hC,h⟩,fun v hv=>?_⟩;obtain⟨C',aw,hS⟩:=hv;rw[hC] at aw;cases aw;refine⟨_,κset_same _ _ _,?_⟩;show wE Mc.H C 0 C.len v;rw[up.H];exact hS
  ·rename_i ver xs n ah;obtain⟨hc,h⟩:Nat.beq xs.length n=true∧some xs=some d:=by
    cases e:Nat.beq xs.length n with
    |true=>rw[e] at h;exact⟨rfl,h⟩
    |false=>rw[e] at h;cases h
   cases h;obtain⟨C,hC,hO⟩:=fY.obj id _ ah;obtain⟨k1,k2,k3⟩:=zI.add_ok ok aO (o:=.mat 0 d) (C:={C with ver:=0}) (yUt (Mc:=Mc.add nm (.mat 0 d) {C with ver:=0}) ⟨up.H,up.G⟩ hO (Nat.eq_of_beq_eq_true hc)) (hb id (by simp[vM]) C hC);refine⟨Mc.add nm (.mat 0 d) {C with ver:=0},rfl,rfl,rfl,rfl,k1,k2,fun b bD=>(k3 b bD).imp (fun h=>h) fun h=>⟨id,by simp[vM],C,hC,h⟩,fun v hv=>?_⟩;obtain⟨C',aw,hS⟩:=hv;rw[hC] at aw;cases aw;refine⟨_,κset_same _ _ _,?_⟩;show wE Mc.H C 0 C.len v;rw[up.H];exact hS
  ·cases h
 ·cases h;obtain⟨k1,k2,k3⟩:=Mc.nilObj_ok ok aO (.int .i64) true;refine⟨Mc.nilObj nm (im (.int .i64) true) (ju (.int .i64) true),rfl,rfl,rfl,rfl,k1,k2,by grind,fun v hv=>?_⟩;rw[show v=.slice none 0 0 from hv];exact⟨_,κset_same _ _ _,none,0,rfl,rfl,rfl,rfl⟩
 ·rename_i id;split at h
  ·rename_i xs ah;cases h;obtain⟨C,hC,hO⟩:=fY.obj id _ ah;obtain⟨k1,k2,k3⟩:=zI.add_ok ok aO (o:=.pmat 0 [] xs.length) (C:={C with ver:=0}) (vGc (Mc:=Mc.add nm (.pmat 0 [] xs.length) {C with ver:=0}) ⟨up.H,up.G⟩ hO) (hb id (by simp[vM]) C hC);refine⟨Mc.add nm (.pmat 0 [] xs.length) {C with ver:=0},rfl,rfl,rfl,rfl,k1,k2,fun b bD=>(k3 b bD).imp (fun h=>h) fun h=>⟨id,by simp[vM],C,hC,h⟩,fun v hv=>?_⟩;obtain⟨C',aw,hS⟩:=hv;rw[hC] at aw;cases aw;refine⟨_,κset_same _ _ _,?_⟩;show wE Mc.H C 0 C.len v;rw[up.H];exact hS
  ·cases h
 ·cases h;obtain⟨k1,k2,k3⟩:=zI.add_ok ok aO (o:=.pmat 0 [] 0) (C:=⟨none,0,1,0,[]⟩) ⟨rfl,rfl,rfl,rfl,by simp[zZ.fp],Nat.le_refl _,rfl⟩ (nofun);refine⟨Mc.add nm (.pmat 0 [] 0) ⟨none,0,1,0,[]⟩,rfl,rfl,rfl,rfl,k1,k2,fun b bD=>(k3 b bD).imp (fun h=>h) nofun,fun v hv=>?_⟩;rw[show v=.slice none 0 0 from hv];exact⟨_,κset_same _ _ _,none,0,rfl,rfl,rfl,rfl⟩
 ·rename_i id;split at h
  ·rename_i cL ah;cases h;obtain⟨C,hC,hO⟩:=fY.obj id _ ah;have pn:yP (Mc.add nm (.imap d) C) (.imap d) C:=by
    obtain⟨B,es,ck,h1,h2,h3,h4,h5⟩:=hO;refine⟨B,es,ck,h1,h2,?_,h4,h5⟩;show Mc.H[B]? =_;rw[up.H];exact h3
   obtain⟨k1,k2,k3⟩:=zI.add_ok ok aO (o:=.imap d) (C:=C) pn (hb id (by simp[vM]) C hC);refine⟨Mc.add nm (.imap d) C,rfl,rfl,rfl,rfl,k1,k2,fun b bD=>(k3 b bD).imp (fun h=>h) fun h=>⟨id,by simp[vM],C,hC,h⟩,fun v hv=>?_⟩;obtain⟨C',B,aw,hB,e⟩:=hv;rw[hC] at aw;cases aw;exact⟨C,B,κset_same _ _ _,hB,e⟩
  ·cases h
 ·exact same rfl fun v hv=>hv
 ·exact same rfl fun v hv=>hv.one
 ·exact same rfl fun v hv=>hv
 ·cases h
theorem Jv r c l cs:vM (r::l) (c::cs)=vM [r] [c]++vM l cs:=by
 cases r<;>cases c<;>rfl
theorem yBz {nm r d n}(h:n≠nm) hh:qF hh (nT nm r d).2 n=hh n:=by
 cases r<;>first|rfl|exact yJ _ _ h
theorem Ph {h}:∀{n nm},sn h nm n=true→∀i,i<n→h (nm+i)=none
 |n+1,nm,e,i,hi=>by
  unfold sn at e;rw[Bool.and_eq_true] at e;cases i with
  |zero=>
   grind
  |succ i=>rw[←Ph e.2 i (by omega)];grind
theorem Pj {L:zI}(fY:Ok L):∀{l:List RC} {cs:List zV} {d:RL l} {nm:Nat} {Mc:zI},Ok Mc→Up L Mc→(∀i,i<l.length→Mc.h (nm+i)=none)→iu L.h l cs=some d→(vM l cs).Nodup→
  (∀id∈vM l cs,∃o,L.h id=some o∧o.owned=true)→
  (∀id∈vM l cs,∀C,L.κ id=some C→∀b∈C.fp,¬qJ Mc b∧¬Mc.F b∧b<Mc.H.size)→
  ∃dQ:zI,dQ.H=Mc.H∧dQ.G=Mc.G∧dQ.F=Mc.F∧dQ.h=qF Mc.h (lW nm l d).2∧Ok dQ∧yF Mc dQ∧
   (∀b,qJ dQ b→qJ Mc b∨∃id∈vM l cs,∃C,L.κ id=some C∧b∈C.fp)∧∀vs,zK (zQ L) cs vs→zK (zQ dQ) (lW nm l d).1 vs
 |[],[],d,nm,Mc,ok,up,_,_,_,_,_=>⟨Mc,rfl,rfl,rfl,rfl,ok,.refl Mc,fun b h=>.inl h,fun vs h=>by
  cases vs with
  |nil=>trivial
  |cons _ _=>exact h.elim⟩
 |r::l,c::cs,d,nm,Mc,ok,up,hf,h,di,aJ,hb=>by
  unfold iu at h;split at h
  ·rename_i x xs e1 e2;cases h;rw[Jv] at di aJ hb;obtain⟨nd1,nd2,nd3⟩:=List.nodup_append.1 di;obtain⟨M1,a1,a2,a3,a4,a5,a6,a7,a8⟩:=yYs fY ok up (by have:=hf 0 (by simp);simpa using this) e1 (by grind);have up1:Up L M1:=⟨a1.trans up.H,a2.trans up.G⟩;obtain ⟨M2, b1, b2, b3, b4, b5, b6, b7, b8⟩ := Pj fY (nm := nm + 1) a5 up1 (fun i hi=>by
     rw[a4,yBz (by omega)];have:=hf (i+1) (by simp;omega);grind) e2 nd2 (fun id ah => aJ id (by grind)) (fun id ah C hC b zz=>by
     obtain⟨q1,q2,q3⟩:=hb id (List.mem_append_right _ ah) C hC b zz;refine⟨fun ho=>?_,by simp_all,by simp_all⟩;rcases a7 b ho with ho|⟨jd,cM,D,hD,Pk⟩
     ·exact q1 ho
     ·have bj:id≠jd:=by grind
      obtain⟨o1,p1,p2⟩:=aJ id (by grind);obtain⟨o2,p3,p4⟩:=aJ jd (List.mem_append_left _ cM);exact fY.disj id jd o1 o2 C D b bj p1 p3 p2 p4 hC hD zz Pk)
   refine⟨M2,b1.trans a1,b2.trans a2,b3.trans a3,?_,b5,a6.trans (by simp_all) b6,fun b bD=>?_,fun vs dh=>?_⟩
   ·show M2.h=qF Mc.h ((nT nm r x).2++(lW (nm+1) l xs).2);rw[iO,←a4];exact b4
   ·rw[Jv];grind
   ·cases vs with
    |nil=>exact dh.elim
    |cons v vs=>exact⟨(a8 v dh.1).ext b6,b8 vs dh.2⟩
  ·cases h
 |[],_::_,_,_,_,_,_,_,h,_,_,_=>by cases h
 |_::_,[],_,_,_,_,_,_,h,_,_,_=>by cases h
theorem vQ {α:Type}{c x}{y:α}(h:(bif c then x else none)=some y):c=true∧x=some y:=by
 grind
theorem yC7 {M}:∀{l xs cs vs},O9 l xs=some cs→zK (rU M) xs vs→
  cs.length=(l.flatMap (·.2)).length∧∃us:List Value,zK (zQ M) cs us∧∀M' aM,zK (zQ M') aM us→zK (rU M') (Pb l aM) vs
 |[],[],cs,[],h,_=>by cases h;exact⟨rfl,[],trivial,fun _ _ _=>trivial⟩
 |(b,l)::ls,(g,ky)::rest,cs,v::vs,h,hv=>by
  obtain⟨hc,h⟩:=vQ h;split at h
  ·rename_i r hr;cases h;rw[Bool.and_eq_true] at hc;have hl:ky.length=l.length:=by simp_all
   obtain⟨k1,us,k2,k3⟩:=yC7 hr hv.2;refine⟨by simp_all,?_⟩;cases b with
   |true=>
    have hg:g=true:=hc.1;subst hg;obtain⟨ws,rfl,hw⟩:=hv.1;refine⟨ws.toList++us,hw.append k2,fun M' aM h'=>⟨?_,?_⟩⟩
    ·have h1:=zK.take l.length h';have Pl:=hw.length;rw[show(ws.toList++us).take l.length=ws.toList from by simp_all] at h1;exact⟨ws,rfl,h1⟩
    ·have h1:=zK.drop l.length h';have Pl:=hw.length;simp_all
   |false=>
    have hg:=hc.1;simp  at hg;obtain⟨Jw,hg2⟩:=hg;subst Jw;have pt:ky.length=1:=by simp_all
    match ky,pt with
    |[c],_=>
     have la:zQ M c v:=hv.1;refine⟨v::us,⟨la,k2⟩,fun M' aM h'=>?_⟩
     match aM,h' with
     |c'::Pm,h'=>
      have e:l.length=1:=by omega
      refine⟨?_,?_⟩
      ·rw[e];exact h'.1
      ·rw[e];exact k3 M' Pm h'.2
  ·cases h
 |[],[],_,_::_,_,hv=>hv.elim
theorem yMn {M}{s:RS}{v cs rv}(h:s.get v=some cs)(hv:zP M v rv):
  cs.length=s.cells.length∧∃us:List Value,zK (zQ M) cs us∧∀M' aM,zK (zQ M') aM us→zP M' (s.mk aM) rv:=by
 unfold RS.get at h;split at h
 ·cases h;refine⟨rfl,[rv],⟨hv,trivial⟩,fun M' aM h'=>?_⟩
  match aM,h' with
  |[c'],h'=>exact h'.1
 ·obtain⟨hl,h⟩:=vQ h;cases h;obtain⟨vs,rfl,hx⟩:=hv;exact⟨Nat.eq_of_beq_eq_true hl,vs.toList,hx,fun M' aM h'=>⟨vs,rfl,h'⟩⟩
 ·obtain⟨vs,rfl,hx⟩:=hv;obtain⟨k1,us,k2,k3⟩:=yC7 h hx;exact⟨k1,us,k2,fun M' aM h'=>⟨vs,rfl,by grind⟩⟩
 ·cases h
theorem yXn {h0 s a a' v u M}(ok:Ok M)(hf:wF h0 M.h)(hv:zP M a v)(h:so h0 s a=some (a',u)):
  ∃L:zI,L.H=M.H∧L.h=qF M.h u∧Ok L∧yS M L∧zP L a' v∧wF h0 L.h:=by
 unfold so at h;split at h
 ·rename_i p x;split at h
  ·rename_i y u1 e;cases h;obtain⟨L,h1,h2,h3,h4,h5,h6⟩:=ss (cs:=[x]) (vs:=[v]) ok hf ⟨hv,trivial⟩ e;exact⟨L,h1,h2,h3,h4,h5.1,h6⟩
  ·cases h
 ·split at h
  ·rename_i ys u1 e;cases h;obtain⟨vs,rfl,hx⟩:=hv;obtain⟨L,h1,h2,h3,h4,h5,h6⟩:=ss ok hf hx e;exact⟨L,h1,h2,h3,h4,⟨vs,rfl,h5⟩,h6⟩
  ·cases h
 ·cases h;exact⟨M,rfl,rfl,ok,.refl M,hv,hf⟩
theorem su.ext {M M'}(x:yF M M'):∀{as vs},zK (zP M) as vs→zK (zP M') as vs:=fun h=>h.mono fun _ _ h=>h.ext x
theorem qWv {h0}:∀{l as dV vs u M},Ok M→wF h0 M.h→zK (zP M) as vs→nU h0 l as=some (dV,u)→
  ∃L:zI,L.H=M.H∧L.h=qF M.h u∧Ok L∧yS M L∧zK (zP L) dV vs∧wF h0 L.h
 |s::l,a::as,dV,v::vs,u,M,ok,hf,hv,h=>by
  unfold nU at h;split at h
  ·rename_i a1 u1 Pn nH e1 e2;cases h;obtain⟨M1,h1,h2,h3,h4,h5,h6⟩:=yXn ok hf hv.1 e1;obtain⟨M2,k1,k2,k3,k4,k5,k6⟩:=qWv h3 h6 (su.ext h4.ext hv.2) e2;exact⟨M2,k1.trans h1,by rw[k2,h2,iO],k3,h4.trans k4,⟨h5.ext k4.ext,k5⟩,k6⟩
  ·cases h
 |[],as,dV,vs,u,M,ok,hf,hv,h=>by
  cases as<;>cases h<;>exact⟨M,rfl,rfl,ok,.refl M,hv,hf⟩
 |s::l,[],dV,vs,u,M,ok,hf,hv,h=>by cases h;exact⟨M,rfl,rfl,ok,.refl M,hv,hf⟩
def zI.over (M L:zI):zI:={κ:=M.κ,F:=fun b=>M.F b∨L.G b,G:=L.G,h:=M.h,H:=L.H}
theorem zI.over_ok {M Ml L}(ok:Ok M)(fY:Ok L)(lo:Lo M Ml)(E1:∀b,¬qJ Ml b)(g:gH Ml L):Ok (M.over L)∧yS M (M.over L):=by
 have bd:∀b,Ml.F b↔b<M.H.size:=fun b=>by rw[lo.F]
 have cF:∀b,b<M.H.size→L.H[b]? =M.H[b]? :=fun b hb=>by rw[g.same b (by grind),lo.H]
 have df:M.H.size≤L.H.size:=by grind
 have hG:∀b,L.G b→b<M.H.size→M.G b:=fun b hb hs=>by
  rcases g.Gb b hb (by rw[lo.H];exact hs) with h|h
  ·rw[lo.G] at h;exact h
  simp_all
 have hY:∀b,M.F b→b<M.H.size:=ok.Flt;have x:yF M (M.over L):=⟨fun id C h=>⟨C,h,C.le_refl⟩,fun b h=>.inl h,fun b h=>g.G b (by rw[lo.G];exact h),fun b h=>cF b (by grind),fun b h=>cF b (ok.Flt b (ok.GF b h)),fun b h=>yv (cF b h)⟩;have aJ:∀b,qJ (M.over L) b→qJ M b:=fun b h=>h
 refine⟨⟨fun id o h=>?_,fun id h=>ok.non id h,ok.disj,fun b h=>⟨fun hf=>?_,?_⟩,fun b h=>.inr h,fun b h=>?_⟩,⟨x,df,fun b hb _=>cF b hb,by grind,fun b h hs=>.inl (hG b h hs),fun b h hs=>?_⟩⟩
 ·obtain⟨C,hC,hO⟩:=ok.obj id o h;exact⟨C,hC,hO.ext x fun ho b hb=>cF b (ok.own b ⟨id,o,C,h,ho,hC,hb⟩).2⟩
 ·have:=ok.own b (aJ b h);rcases hf with hf|hf
  ·simp_all
  ·exact this.1 (ok.GF b (by grind))
 ·have h1:=(ok.own b (aJ b h)).2;show b<L.H.size;omega
 ·show b<L.H.size;rcases h with h|h
  ·grind
  ·exact fY.Flt b (fY.GF b h)
 ·rcases h with h|h
  ·simp_all
  ·exact .inl (ok.GF b (hG b h hs))
theorem vIk {h0 r c d}(h:mJ h0 r c=some d):∀id∈vM [r] [c],∃o,h0 id=some o∧o.owned=true:=by
 unfold mJ at h;split at h;all_goals (try (intro id ah;simp[vM] at ah;done))
 ·intro zt ah;have:=List.mem_singleton.1 ah;subst this;split at h
  ·exact⟨_,by assumption,rfl⟩
  ·cases h
 ·intro zt ah;have:=List.mem_singleton.1 ah;subst this;split at h
  ·exact⟨_,by omega,rfl⟩
  ·cases h
 ·rename_i id;intro zt ah;have:=List.mem_singleton.1 ah;subst this;split at h
  ·exact⟨_,by assumption,rfl⟩
  ·exact⟨_,by omega,rfl⟩
  ·cases h
 ·intro zt ah;have:=List.mem_singleton.1 ah;subst this;split at h
  ·exact⟨_,by assumption,rfl⟩
  ·cases h
 ·intro zt ah;have:=List.mem_singleton.1 ah;subst this;split at h
  ·exact⟨_,by assumption,rfl⟩
  ·cases h
 ·cases h
theorem sv {L:zI}:∀{l cs d},iu L.h l cs=some d→∀id∈vM l cs,∃o,L.h id=some o∧o.owned=true
 |r::l,c::cs,d,h,id,ah=>by
  unfold iu at h;split at h
  ·rename_i x xs e1 e2;rw[Jv] at ah;rcases List.mem_append.1 ah with ah|ah
   ·exact vIk e1 id ah
   ·exact sv e2 id ah
  ·cases h
theorem yKx {E}(hE:fb E)(hS:il E.sums)(hm:E.P.follows .mixedOrders=true){A k pre na f fn}(hf:E.P.funcs[f]? =some fn)(hL:∀c,fn.body=some c→wA E.P A pre na fn.ntmps c)(dr:∀vs w,(callFunc f vs).run E.P w=.ok (.enter f vs) w)
  {as rs X S pack} {unpack:RL rs.cells→X} (iw:∀d,pack (unpack d)=d) (aW:∀d x,S d=some x→∀Ml vs,zK (zP Ml) (mI as d).1 vs→∃dR,zK (zP Ml) dR vs∧ja E A k pre na fn dR (mI as d).2 (kB rs unpack)=some x)
  {nm args h v u} (hy:yC (lX as rs S pack nm args h) v u):uO E.P f args h v u:=by
 intro M w vs hh hH ok hv;refine .inl ⟨dr vs w,?_⟩;unfold lX at hy;split at hy
 ·exact hy.elim
 rename_i dR u0 vf;split at hy
 case h_2=>exact hy.elim
 rename_i d hd;obtain⟨hc,hy⟩:=uK hy;rw[Bool.and_eq_true] at hc;obtain⟨x,hx,rfl,rfl⟩:=hy;subst hh;obtain⟨M1,a1,a2,a3,a4,a5,a6⟩:=qWv ok (wF.refl _) hv vf;rw[←a2] at hd;obtain⟨Ml,lo,b2,b3,b4,b5⟩:=vHu a3 a5 hd;obtain⟨aaa,vg,Po⟩:=aW d x hx Ml _ b5;refine Calls.mono (O7 hE hS hm hf hL Po b2 (by rw[lo.H,a1];exact hH) b3 vg) fun e w' he=>?_
 cases e with
 |panicked _=>omega
 |outgrown=>omega
 |returned rv=>
  obtain⟨L0,v0,st,hK,c1,c2,c3,c4,_,c5,c6,c7,c8,_⟩:=he;have hK:EZ st.h rs v0=some (pack x):=by
   unfold kB at hK;grind
  unfold EZ at hK;split at hK
  case h_2=>cases hK
  rename_i cs lh;split at hK
  case h_2=>cases hK
  rename_i aM u1 vh;obtain⟨di,hK⟩:=vQ hK;obtain⟨hlen,us,d1,d2⟩:=yMn lh c5;rw[←c1] at vh hK;obtain⟨L,e1,e2,e3,e4,e5,e6⟩:=ss c3 (wF.refl _) d1 vh;rw[←e2] at hK;have g:gH Ml L:=c4.trans e4.grow;obtain⟨f1,f2⟩:=zI.over_ok a3 e3 lo b4 g;have mK:∀i,i<rs.cells.length→(M1.over L).h (nm+i)=none:=fun i hi=>by
   have h1:=Ph hc.1 i hi;show M1.h (nm+i)=none;rcases a6 (nm+i) with h|⟨own,t,xs,h,_⟩|⟨ver,xs,h,_⟩
   all_goals simp_all
  obtain ⟨Mc, g1, g2, g3, g4, g5, g6, g7, g8⟩ := Pj e3 f1 ⟨rfl, rfl⟩ mK hK (zm di) (sv hK) (fun id ah C hC b hb=>by
   obtain⟨o,ho,fW⟩:=sv hK id ah;have aJ:qJ L b:=⟨id,o,C,ho,fW,hC,hb⟩;have lO:¬b<M1.H.size:=fun bd=>b4 b (g.own b aJ (by rw[lo.H];omega))
   refine⟨fun h=>lO (a3.own b h).2,fun h=>?_,(e3.own b aJ).2⟩;rcases h with h|h
   ·exact lO (a3.Flt b h)
   ·exact(e3.own b aJ).1 (e3.GF b h))
  have Pp:yS M1 Mc:=by
   have aJ:∀b,qJ Mc b→b<M1.H.size→qJ M1 b:=fun b hb bd=>by
    rcases g7 b hb with h|⟨id,ah,C,hC,zz⟩
    ·exact h
    ·obtain⟨o,ho,fW⟩:=sv hK id ah;exact absurd (g.own b ⟨id,o,C,ho,fW,hC,zz⟩ (by rw[lo.H];omega)) (b4 b)
   refine⟨f2.ext.trans f2.size g6,?_,fun b hb hn=>?_,aJ,fun b hb bd=>?_,fun b hb bd=>?_⟩
   ·rw[g1];exact f2.size
   ·rw[g1];exact f2.frame b hb hn
   ·rw[g2] at hb;exact f2.Gb b hb bd
   ·rw[g3] at hb;exact f2.Fb b hb bd
  refine⟨Mc,⟨c6,c7,c8,?_,?_,g5,a4.trans Pp⟩,?_⟩
  ·rw[g1];show L.H=_;rw[e1,c2]
  ·rw[iO,←a2];exact g4
  ·exact d2 Mc _ (g8 us e5)
theorem vEb {E}(hE:fb E)(hS:il E.sums)(hm:E.P.follows .mixedOrders=true){A k pre na f fn}(hf:E.P.funcs[f]? =some fn)(hL:∀c,fn.body=some c→wA E.P A pre na fn.ntmps c)(dr:∀vs w,(callFunc f vs).run E.P w=.ok (.enter f vs) w)
  {as rs X S} {pack:X→RL rs.cells} {unpack} (iw:∀d,pack (unpack d)=d) (aW:∀d,ja E A k pre na fn (mI as d).1 (mI as d).2 (kB rs unpack)=S d)
  {nm args h v u} (hy:yC (lX as rs S pack nm args h) v u):uO E.P f args h v u:=
 yKx hE hS hm hf hL dr iw (fun d x hx _ _ hv=>⟨_,hv,(aW d).trans hx⟩) hy
theorem vA8 {E}(hE:fb E)(hS:il E.sums)(hm:E.P.follows .mixedOrders=true){A k pre na f fn}(hf:E.P.funcs[f]? =some fn)(hL:∀c,fn.body=some c→wA E.P A pre na fn.ntmps c)(dr:∀vs w,(callFunc f vs).run E.P w=.ok (.enter f vs) w)
  {sh t rs X} {S:List t.den→Option X} {pack unpack} (iw:∀d,pack (unpack d)=d) (cA:∀x,S []=some x→ja E A k pre na fn [.c .nsl] (jw []) (kB rs unpack)=some x)
  (aW:∀xs x,S xs=some x→ja E A k pre na fn [.c (.nfl sh t xs)] (jw []) (kB rs unpack)=some x)
  {nm args h v u} (hy:yC (lX [.c (.dat sh t)] rs (fun d=>S d.1) pack nm args h) v u):uO E.P f args h v u:=
 yKx hE hS hm hf hL dr iw (fun d x hx Ml vs hv=>by
  obtain⟨xs,_⟩:=d
  match vs,hv with
  |[v],hv=>
   have la:qB Ml.H (bif sh then Ml.G else Ml.F) (.sl t) xs (fun _=>some v):=hv.1;have mD:=la;simp[qB] at la;obtain⟨A',n,c,rfl,hn,hc,h⟩:=la;cases A' with
   |some a=>exact⟨[.c (.nfl sh t xs)],⟨⟨by simp,mD⟩,trivial⟩,aW xs x hx⟩
   |none=>
    rcases h with⟨rfl,h0⟩|⟨B,o,e,_⟩
    ·have h0:=h0 rfl;subst h0;subst hn;exact⟨[.c .nsl],⟨rfl,trivial⟩,cA x hx⟩
    ·cases e) hy
def yL.orElse:yL→yL→yL
 |.alts [],b=>b
 |a,_=>a
abbrev lZ:=Nat→Nat→List zT→Hp→yL
def jP:List (Nat×lZ)→Iy
 |[],_,_,_,_,_=>.stuck
 |(g,e)::l,k,nm,f,args,h=>bif Nat.beq g f then(e k nm args h).orElse (jP l k nm f args h) else jP l k nm f args h
def qWm (P:Program)(r:Nat×lZ):Prop:=∀k nm args h v u,yC (r.2 k nm args h) v u→uO P r.1 args h v u
def Jx (e:lZ):Prop:=∀k nm (args:List zT) h h',(args.any vR=false→∀id,(id∈args.flatMap yG∨kV nm id=true)→h id=h' id)→(args.any vR=true→h=h')→e k nm args h=e k nm args h'
theorem vFo {a b v u}(h:yC (a.orElse b) v u):yC a v u∨yC b v u:=by
 unfold yL.orElse at h;grind
theorem ySk {P}:∀{l},(∀r∈l,qWm P r)→Zv P (jP l)
 |[],_=>nofun
 |(g,e)::l,hl=>fun k nm f args h v u hy=>by
  have ih:=ySk (l:=l) fun r hr=>hl r (by grind)
  unfold jP at hy;cases hg:Nat.beq g f with
  |false=>rw[hg] at hy;exact ih k nm f args h v u hy
  |true=>
   rw[hg] at hy;have:g=f:=by simp_all
   subst this;rcases vFo hy with hy|hy
   ·exact hl (g,e) (by simp) k nm args h v u hy
   ·exact ih k nm g args h v u hy
theorem yKb:∀{l},(∀r∈l,Jx r.2)→il (jP l)
 |[],_=>fun k nm f args h h' _ _=>rfl
 |(g,e)::l,hl=>fun k nm f args h h' h1 h2=>by
  have ih:=yKb (l:=l) (by grind) k nm f args h h' h1 h2;unfold jP;have he:e k nm args h=e k nm args h':=hl (g,e) (by simp) k nm args h h' h1 h2;rw[ih,he]
section
variable {h h':Hp}
theorem yU6 {t c}(hh:∀id∈yY c,h id=h' id):uZ h t c=uZ h' t c:=by
 have e:=Jj hh;unfold uZ;grind
theorem yK1 {p c}(hh:∀id∈yY c,h id=h' id):pG h p c=pG h' p c:=by
 have e:=fun t=>yU6 (t:=t) hh
 unfold pG;grind
theorem yMi:∀{l cs},(∀id∈cs.flatMap yY,h id=h' id)→u9 h l cs=u9 h' l cs
 |[],[],_
 |[],_::_,_
 |_::_,[],_=>rfl
 |p::l,c::cs,hh=>by
  simp  at hh;unfold u9;rw[yK1 fun id hi=>hh id (.inl hi),yMi (by grind)]
theorem vDr {ls}:pH h ls []=pH h' ls []:=by
 cases ls<;>rfl
theorem vMx {s:AS}{a}(hb:vR a=false):s.get h a=s.get h' a:=by
 unfold AS.get;cases s with
 |c p=>grind
 |agg l=>grind
 |ptr l=>
  cases a with
  |c x=>cases x<;>first|rfl|(exact absurd hb (by nofun))
  |_=>rfl
 |fn f bp=>
  cases a with
  |c x=>cases x with
   |fn g ids=>
    cases ids with
    |nil=>dsimp only;rw[vDr]
    |cons _ _=>exact absurd hb (by nofun)
   |_=>rfl
  |_=>rfl
theorem vJt {s:AS}{a cs}(hb:vR a=false)(e:s.get h a=some cs):∀id∈cs.flatMap yY,id∈yG a:=by
 unfold AS.get at e;split at e
 ·cases e;intro id ah;simp  at ah;exact ah
 ·obtain⟨_,e⟩:=vQ e;cases e;exact fun id ah=>ah
 ·exact absurd hb (by nofun)
 ·rename_i f bp g ids;obtain⟨_,e⟩:=vQ e;cases ids with
  |nil=>cases bp with
   |nil=>cases e;simp
   |cons _ _=>cases e
  |cons _ _=>exact absurd hb (by nofun)
 ·cases e
theorem yCh:∀{l as},as.any vR=false→nS h l as=nS h' l as
 |[],[],_
 |[],_::_,_
 |_::_,[],_=>rfl
 |s::l,a::as,hb=>by
  simp only[List.any_cons,Bool.or_eq_false_iff] at hb;unfold nS;rw[vMx (h:=h) (h':=h') hb.1,yCh hb.2]
theorem yJb:∀{l as cs},as.any vR=false→nS h l as=some cs→∀id∈cs.flatMap yY,id∈as.flatMap yG
 |[],[],cs,_,e=>by cases e;simp
 |s::l,a::as,cs,hb,e=>by
  simp only[List.any_cons,Bool.or_eq_false_iff] at hb;unfold nS at e;split at e
  ·rename_i c1 rest e1 e2;cases e;intro id ah;rw[List.flatMap_append,List.mem_append] at ah;rw[List.flatMap_cons,List.mem_append];rcases ah with ah|ah
   ·exact .inl (vJt hb.1 e1 id ah)
   ·exact .inr (yJb hb.2 e2 id ah)
  ·cases e
theorem yUh {l as}(hb:as.any vR=false)(hh:∀id∈as.flatMap yG,h id=h' id):vd h l as=vd h' l as:=by
 unfold vd;rw[yCh (h:=h) (h':=h') hb];cases e:nS h' l as with
 |none=>rfl
 |some cs=>exact yMi fun id ah=>hh id (yJb hb e id ah)
theorem z9 {x}:[x].flatMap yY=yG (.c x):=by simp[yG]
theorem Pq {c c' u}(e:lM h c=some (c',u)):(∀id∈yY c',id∈yY c)∧(vR (.c c')=true→vR (.c c)=true):=by
 cases c with
 |osl id r=>
  unfold lM at e;dsimp only at e;split at e
  ·cases e;exact⟨nofun,nofun⟩
  ·cases r with
   |none=>cases e;exact⟨nofun,nofun⟩
   |some _=>cases e
  ·cases e
 |mrow _ _ _=>cases e
 |_=>cases e;simp
theorem Ac:∀{l cs},(∀id∈cs.flatMap yY,h id=h' id)→jY h l cs=jY h' l cs
 |[],cs,_=>by rfl
 |true::l,[],_
 |false::l,[],_=>rfl
 |true::l,c::cs,hh=>by
  simp  at hh;unfold jY;rw[ZC fun id hi=>hh id (.inl hi),Ac (by grind)]
 |false::l,c::cs,hh=>by
  unfold jY;rw[Ac (by grind)]
theorem Ad:∀{l cs aM u},jY h l cs=some (aM,u)→∀id∈aM.flatMap yY,id∈cs.flatMap yY
 |[],cs,aM,u,e=>by cases cs<;>cases e<;>exact by simp
 |true::l,[],aM,u,e
 |false::l,[],aM,u,e=>by cases e;simp
 |true::l,c::cs,aM,u,e=>by
  unfold jY at e;split at e
  ·rename_i c1 u1 ky nH e1 e2;cases e;intro id ah;rw[List.flatMap_cons,List.mem_append] at ah⊢;exact ah.imp ((Pq e1).1 id) (Ad e2 id)
  ·cases e
 |false::l,c::cs,aM,u,e=>by
  unfold jY at e;split at e
  ·rename_i ky nH e2;cases e;intro id ah;rw[List.flatMap_cons,List.mem_append] at ah⊢;exact ah.imp (by simp) (Ad e2 id)
  ·cases e
theorem yT6 {s a}(hh:∀id∈yG a,h id=h' id):so h s a=so h' s a:=by
 unfold so;cases s with
 |c p=>cases a with
  |c x=>
   have:=Ac (h:=h) (h':=h') (l:=[p.isKept]) (cs:=[x]) (by rw[z9];exact hh);simp_all
  |_=>rfl
 |agg l=>cases a with
  |agg xs=>
   have:=Ac (h:=h) (h':=h') (l:=l.map PC.isKept) (cs:=xs) hh;simp_all
  |_=>rfl
 |_=>rfl
theorem yTs {s a a' u}(e:so h s a=some (a',u)):(∀id∈yG a',id∈yG a)∧(vR a=false→vR a'=false):=by
 unfold so at e;split at e
 ·rename_i p x;split at e
  ·rename_i y u1 e1;cases e;refine⟨fun id ah=>by have:=Ad e1 id (by rw[z9];omega);rwa [z9] at this,fun hb=>?_⟩;cases hk:p.isKept with
   |false=>rw[hk] at e1;cases e1;exact hb
   |true=>
    rw[hk] at e1;unfold jY at e1;split at e1
    ·rename_i c1 u2 ky nH e2 e3;cases e1;cases hy:vR (.c y) with
     |false=>rfl
     |true=>rw[(Pq e2).2 hy] at hb;cases hb
    ·cases e1
  ·cases e
 ·split at e
  ·rename_i ys u1 e1;cases e;exact⟨Ad e1,fun _=>rfl⟩
  ·cases e
 simp_all
theorem yR1:∀{l as},(∀id∈as.flatMap yG,h id=h' id)→nU h l as=nU h' l as
 |[],as,_=>by rfl
 |_::_,[],_=>rfl
 |s::l,a::as,hh=>by
  simp  at hh;unfold nU;rw[yT6 fun id hi=>hh id (.inl hi),yR1 (by grind)]
theorem yOi:∀{l as dV u},nU h l as=some (dV,u)→(∀id∈dV.flatMap yG,id∈as.flatMap yG)∧(as.any vR=false→dV.any vR=false)
 |[],as,dV,u,e=>by cases as<;>cases e<;>exact by simp
 |s::l,[],dV,u,e=>by cases e;simp
 |s::l,a::as,dV,u,e=>by
  unfold nU at e;split at e
  ·rename_i a1 u1 Pn nH e1 e2;obtain⟨k1,k2⟩:=yTs e1;obtain⟨k3,k4⟩:=yOi e2;grind
  ·cases e
theorem Pr:∀{n nm},(∀i,i<n→h (nm+i)=h' (nm+i))→sn h nm n=sn h' nm n
 |0,_,_=>rfl
 |n+1,nm,hh=>by
  unfold sn;have:=hh 0 (by omega);rw[Nat.add_zero] at this;rw[this,Pr (by grind)]
end
theorem qT2 {as rs X}{S:Nat→AD as→Option X}{pack}:Jx fun k nm args h=>lX as rs (S k) pack nm args h:=by
 intro k nm args h h' h1 h2;cases hb:args.any vR with
 |true=>rw[h2 hb]
 |false=>
  have hh:=h1 hb;show lX as rs (S k) pack nm args h=lX as rs (S k) pack nm args h';unfold lX;rw[yR1 (h:=h) (h':=h') (by grind)];cases e:nU h' as args with
  |none=>rfl
  |some p=>
   obtain⟨dR,u⟩:=p;obtain⟨k1,k2⟩:=yOi e;dsimp only;rw[yUh (h:=qF h u) (h':=qF h' u) (k2 hb) fun id ah=>uT (by grind)];cases vd (qF h' u) as dR with
   |none=>rfl
   |some d=>
    cases hle:Nat.ble rs.cells.length 100 with
    |false=>simp
    |true=>
     have hle:=Nat.le_of_ble_eq_true hle;rw [Pr (h := h) (h' := h') fun i hi => hh _ (.inr (by
      simp only[kV,Bool.and_eq_true];exact⟨by simp,by simp[Nat.blt_eq];omega⟩))]
def lj:Code→List Code
 |.seq a b=>lj a++lj b
 |.cond _ a b=>lj a++lj b
 |.block _ b=>lj b
 |.loop b=>[b]
 |_=>[]
def zO (c:Code)(i:Nat):Code:=match(lj c)[i]? with
 |some b=>b
 |none=>.skip
def zS (fn:Func):Code:=match fn.body with
 |some c=>c
 |none=>.skip
def yM7 (P:Program)(A:zY)(pre na nt:Nat)(b:Code):Prop:=(∃L,rS A b=some L∧zU P pre na nt b L)∨(rS A b=none∧wA P A pre na nt b)
theorem vD9 {P A pre na nt}:∀c,(∀b∈lj c,yM7 P A pre na nt b)→wA P A pre na nt c:=by
 intro c
 induction c with
 |seq a b zj zk=>exact fun h=>⟨zj fun x hx=>h x (List.mem_append_left _ hx),zk fun x hx=>h x (List.mem_append_right _ hx)⟩
 |cond t a b zj zk=>exact fun h=>⟨zj fun x hx=>h x (List.mem_append_left _ hx),zk fun x hx=>h x (List.mem_append_right _ hx)⟩
 |block id b ih=>exact fun h=>ih h
 |loop b ih=>
  intro h;rcases h b (List.mem_cons_self ..) with⟨L,h1,h2⟩|⟨h1,h2⟩
  ·refine⟨by grind,by grind⟩
  ·refine⟨fun L' h3=>?_,fun _=>h2⟩;simp_all
 |_=>exact fun _=>trivial
theorem vM3 {P A pre na nt c n}(hn:(lj c).length=n)(h:∀i,i<n→yM7 P A pre na nt (zO c i)):wA P A pre na nt c:=
 vD9 c fun b hb=>by
  obtain⟨i,hi,rfl⟩:=List.getElem_of_mem hb;have e:zO c i=(lj c)[i]:=by
   unfold zO;grind
  grind
theorem nV {P A pre na nt c n}(hn:(lj c).length=n)(h:∀i,i<n→∃L,rS A (zO c i)=some L∧zU P pre na nt (zO c i) L):wA P A pre na nt c:=
 vM3 hn fun i hi=>.inl (h i hi)
theorem yUu {P A pre na nt c}(hn:(lj c).length=0):wA P A pre na nt c:=nV hn (by simp)
theorem body_loops {P A pre na fn}(h:wA P A pre na fn.ntmps (zS fn)):∀c,fn.body=some c→wA P A pre na fn.ntmps c:=fun c hc=>by
 unfold zS at h;simp_all
theorem Jy {P f fn}(hf:P.funcs[f]? =some fn)(hb:fn.body.isNone=false)(hn:(fn.name== "runtime.NumGoroutine")=false):∀vs w,(callFunc f vs).run P w=.ok (.enter f vs) w:=fun vs w=>by
 have h1:(program).run P w=.ok P w:=rfl;unfold callFunc;simp only[Sem.run_bind,h1,Result.andThen_ok,hf,hn,hb,Bool.false_eq_true,if_false,Sem.run_pure]
abbrev zA (x:Int):Int:=IntKind.wrap .i64 x
abbrev yA (k:IntKind)(x y:Int):Int:=oZ (fun _ a b=>a&&&b) k x y
abbrev fe (k:IntKind)(x y:Int):Int:=oZ (fun _ a b=>a|||b) k x y
abbrev shl (k:IntKind)(x y:Int):Int:=k.wrap (x*2^(min y.toNat k.bits))
abbrev shr (k:IntKind)(x y:Int):Int:=x.fdiv (2^(min y.toNat k.bits))
abbrev zR (n b:Nat):Bool:=Nat.ble (n*b) 140737488355328&&Nat.ble n 140737488355328
abbrev Jz (l c:Int)(b:Nat):Bool:=decide (0≤l)&&decide (l≤c)&&decide (c*(b:Int)≤140737488355328)&&decide (c≤140737488355328)
abbrev vi (lt:Bool)(x y:Int):Int:=bif lt then(bif decide (y<x) then y else x) else(bif decide (y>x) then y else x)
abbrev Ps (xs:List (List Int))(n:Nat):Option (List (List Int)):=
 kB (.c .mat) (fun d=>d.1) (.c (.osl 0 none)) ⟨fun _=>.undef,fun _=>some (.pmat 0 xs n)⟩
theorem vH8 xs n:Ps xs n=bif Nat.beq xs.length n then some xs else none:=by
 unfold Ps kB EZ RS.get RS.cells;dsimp only[List.map,RC.isFro,jY,vM,o0,qF];cases h:Nat.beq xs.length n<;>simp[iu,mJ,h]
theorem E2 {l:List Nat}{p:Nat→Bool}(hl:∀t∈l,p t=true)(t:Nat)(h:l.any (Nat.beq t)=true):p t=true:=by
 simp_all
theorem vIp {P}:Ep P (fun _=>false):=nofun
open Go.ChangeShapes Go.WideShapes Go.ChangeAt Go.RowKit
def E3 (f:TypeId→Option Ty):Nat→List (Nat×TypeId)→Option Ty
 |_,[]=>none
 |off,[x]=>bif Nat.beq x.1 off then f x.2 else none
 | off, x :: y :: l => bif Nat.beq x.1 off then (match f x.2 with
  |some a=>(match E3 f (off+a.size) (y::l) with|some b=>some (.pair a b)|none=>none)
  |none=>none) else none
def nW (P:Program):TypeDesc→List (Nat×TypeId)
 |.struct fs=>fs.toList.map fun f=>(f.offset,f.type)
 |.array n e=>(List.range n).map fun i=>(i*P.cellsOf e,e)
 |_=>[]
def l9 (P:Program):Nat→TypeId→Option Ty
 |0,_=>none
 |d+1,t=>match P.underlying t with
  |some (.int k)=>bif Nat.beq (P.cellsOf t) 1 then some (.int k) else none
  |some .bool=>bif Nat.beq (P.cellsOf t) 1 then some .bool else none
  |some (.slice e)=>bif Nat.beq (P.cellsOf t) 1&&Nat.ble 1 (P.bytesOf e) then(match l9 P d e with|some a=>some (.sl a)|none=>none) else none
  |some x=>match E3 (l9 P d) 0 (nW P x) with
   |some a=>bif Nat.beq (P.cellsOf t) a.size then some a else none
   |none=>none
  |none=>none
def Wf:(t:Ty)→t.den→Prop
 |.int k,n=>(Lit.int k n).wf=true
 |.bool,_=>True
 |.sl t,xs=>xs.length≤reachBytes∧∀i (h:i<xs.length),Wf t xs[i]
 |.pair a b,p=>Wf a p.1∧Wf b p.2
theorem Pt {P}:∀{d t ty},l9 P d t=some ty→P.cellsOf t=ty.size
 |d+1,t,ty,h=>by
  unfold l9 at h;split at h
  ·obtain⟨h1,h2⟩:=vQ h;cases h2;exact Nat.eq_of_beq_eq_true h1
  ·obtain⟨h1,h2⟩:=vQ h;cases h2;exact Nat.eq_of_beq_eq_true h1
  ·obtain⟨h1,h2⟩:=vQ h;rw[Bool.and_eq_true] at h1;split at h2
   ·cases h2;exact Nat.eq_of_beq_eq_true h1.1
   ·cases h2
  ·split at h
   ·obtain⟨h1,h2⟩:=vQ h;simp_all
   ·cases h
  ·cases h
section
variable {H:Type} {enc:TypeId×Value→H} {P:Program} {w:World}
abbrev E4 (w:World):Nat→Prop:=fun b=>b<w.heap.size
theorem vP3 {a n cs}(h:w.cells? 0 a n=some cs):cs.length=n∧∀i,i<n→∃v,cs[i]? =some v∧w.cell? (a.add i)=some v:=by
 have hl:=mapM_some_length h;have hg:=mapM_some_get h;simp at hl;refine⟨hl,fun i hi=>?_⟩;have:=hg i i (by simp[hi]);simp_all
theorem yKv {a v}(h:w.cell? a=some v):a.spot=none∧a.block<w.heap.size∧yH w.heap a.block a.off=some v:=by
 unfold World.cell? at h;cases hb:w.heap[a.block]? with
 |none=>simp_all
 |some o=>
  rw[hb] at h;cases o with
  |cells c e z=>
   dsimp only at h;split at h
   ·cases h
   ·refine⟨by simp_all,?_,?_⟩
    ·grind
    ·unfold yH;simp_all
  |_=>cases h
theorem yDm {α:Type}{p:Nat→α→Prop}:∀n,(∀i,i<n→∃x,p i x)→∃xs:List α,xs.length=n∧∀i h,p i xs[i]
 |0,_=>by simp
 |n+1,h=>by
  obtain⟨xs,h1,h2⟩:=yDm n fun i hi=>h i (by omega)
  obtain⟨x,hx⟩:=h n (by omega);refine⟨xs++[x],by simp[h1],fun i hi=>?_⟩;grind
def fE (l:List Nat):Prop:=l.all (· ≤reachBytes)=true
theorem mL {l m}:fE (l++m)↔fE l∧fE m:=by simp[fE]
theorem qUu {P e}{d:DataW H}:∀{l},fE (DataW.weightsAll P e l)→d∈l→fE (d.weights P e)
 |a::l,h,hd=>by
  have h:=mL.1 h;rcases List.mem_cons.1 hd with rfl|hd
  ·exact h.1
  ·exact qUu h.2 hd
theorem qXr {P e}:∀{ts} {ds:List (DataW H)},(∀t∈ts,t=e)→fE (DataW.weightsAll P e ds)→fE (DataW.weightsEach P ts ds)
 |t::ts,d::ds,ht,h=>by
  have h:=mL.1 h;rw[ht t (by simp)];exact mL.2 ⟨h.1,qXr (by grind) h.2⟩
 |[],_,_,_=>by simp[DataW.weightsEach,fE]
 |_::_,[],_,_=>by rfl
def JA (P:Program)(w:World)(ty:Ty)(cs:List Value):Prop:=∃x:ty.den,cs.length=ty.size∧qB w.heap (E4 w) ty x (fun j=>cs[j]?)∧Wf ty x
theorem yJk {d fuel}(ih:∀t ty cs x,l9 P d t=some ty→DataW.trod enc P w 0 (fun _=>true) true fuel t cs=some x→fE (x.1.weights P t)→JA P w ty cs):
  ∀l off ty (cs:List Value) out,E3 (l9 P d) off l=some ty→off+ty.size≤cs.length→
   (l.mapM fun p=>DataW.trod enc P w 0 (fun _=>true) true fuel p.2 ((cs.drop p.1).take (P.cellsOf p.2)))=some out→fE (DataW.weightsEach P (l.map (·.2)) (out.map (·.1)))→JA P w ty ((cs.drop off).take ty.size)
 |[x],off,ty,cs,out,h,hc,hm,hw=>by
  obtain⟨h1,h2⟩:=vQ h;have ho:x.1=off:=by simpa using h1
  simp only[List.mapM_cons,List.mapM_nil,Option.pure_def,Option.bind_eq_bind,Option.bind_eq_some_iff] at hm;obtain⟨y,hy,_,e,e'⟩:=hm;cases e;cases e';rw[ho,Pt h2] at hy;exact ih _ _ _ _ h2 hy (mL.1 hw).1
 |x::y::l,off,ty,cs,out,h,hc,hm,hw=>by
  obtain⟨h1,h2⟩:=vQ h;have ho:x.1=off:=by simpa using h1
  split at h2
  ·rename_i a ha;split at h2
   ·rename_i b hb;cases h2;simp only[Ty.size] at hc⊢;rw[List.mapM_cons] at hm;simp only[Option.pure_def,Option.bind_eq_bind,Option.bind_eq_some_iff] at hm;obtain⟨z,hz,zs,hzs,e⟩:=hm;cases e;rw[ho,Pt ha] at hz;have hw:=mL.1 hw;obtain⟨p,p1,p2,p3⟩:=ih _ _ _ _ ha hz hw.1;obtain⟨q,q1,q2,q3⟩:=yJk ih (y::l) (off+a.size) b cs zs hb (by omega) hzs hw.2;refine⟨(p,q),by simp only[List.length_take,List.length_drop,Ty.size];omega,⟨?_,?_⟩,p3,q3⟩
    ·refine yR (fun _ h=>h) (by simp) a p _ _ (fun j hj=>?_) p2;simp only[List.getElem?_take,List.getElem?_drop];rw[if_pos (by omega),if_pos hj]
    grind
   ·cases h2
  ·cases h2
theorem Pu:∀d t ty fuel cs x,l9 P d t=some ty→DataW.trod enc P w 0 (fun _=>true) true fuel t cs=some x→fE (x.1.weights P t)→JA P w ty cs
 |0,_,_,_,_,_,h,_,_=>by cases h
 |d+1,t,ty,0,cs,x,_,h,_=>by simp[DataW.trod] at h
 |d+1,t,ty,fuel+1,cs,x,hl,h,hw=>by
  unfold l9 at hl;split at hl
  ·rename_i k hu;obtain⟨_,hl⟩:=vQ hl;cases hl;obtain⟨n,rfl,_,sw⟩:=DataW.trod_int hu h;exact⟨n,rfl,rfl,sw⟩
  ·rename_i hu;obtain⟨_,hl⟩:=vQ hl;cases hl;obtain⟨b,rfl,_⟩:=DataW.trod_bool hu h;exact⟨b,rfl,rfl,trivial⟩
  ·rename_i e hu;obtain⟨gE,hl⟩:=vQ hl;rw[Bool.and_eq_true] at gE;have gE:=Nat.le_of_ble_eq_true gE.2;split at hl
   ·rename_i a ha;cases hl;rcases DataW.trod_slice hu h with⟨rfl,_⟩|⟨ad,len,cap,elems,rest,n,hn,rfl,rfl,_,N3,hm,hel,hg,_,_⟩
    ·refine⟨([]:List a.den),rfl,?_,?_⟩
     ·simp only[qB];exact⟨none,0,0,rfl,rfl,Nat.le_refl _,.inl ⟨trivial,fun _=>rfl⟩⟩
     ·simp only[Wf];exact by simp
    ·unfold DataW.weights at hw;rw[hu] at hw;have hw:fE ([((elems.map (·.1)).length+(rest.map (·.1)).length)*P.bytesOf e]++(DataW.weightsAll P e (elems.map (·.1))++DataW.weightsAll P e (rest.map (·.1)))):=hw;obtain⟨nX,hw⟩:=mL.1 hw;have hw2:=(mL.1 hw).1;have hlen:len≤reachBytes:=by
      simp only[fE,List.all_cons,List.all_nil,Bool.and_true,decide_eq_true_eq,List.length_map] at nX;have:=Nat.mul_le_mul_left (elems.length+rest.length) gE;omega
     have key:∀i,i<len→∃x:a.den,(qB w.heap (E4 w) a x (fun j=>yH w.heap ad.block (ad.off+i*a.size+j))∧(i=0→ad.spot=none)∧ad.block<w.heap.size)∧Wf a x:=by
      intro i hi;have h1:=hg i hi;have OW:i<elems.length:=by omega
      rw[List.getElem?_eq_getElem OW,Option.bind_eq_some_iff] at h1;obtain⟨cs,lh,htr⟩:=h1;rw[Pt ha] at lh;obtain⟨y,y1,y2,y3⟩:=Pu d e a n cs _ ha htr (qUu hw2 (by grind));obtain⟨c1,c2⟩:=vP3 lh;have vj:∀j,((ad.add (i*a.size)).add j).block=ad.block∧((ad.add (i*a.size)).add j).off=ad.off+i*a.size+j:=by
       intro j;unfold Addr.add;constructor
       ·split<;>split<;>rfl
       ·split<;>split<;>simp_all
      have at0:(i=0→ad.spot=none)∧ad.block<w.heap.size:=by
       obtain⟨v,_,hv⟩:=c2 0 a.size_pos;have h1:=yKv hv;refine⟨fun h0=>?_,by have:=h1.2.1;rwa [(vj 0).1] at this⟩;have h2:=h1.1;subst h0
       simpa[Addr.add] using h2
      refine⟨y,⟨yR (fun _ h=>h) (fun _ _=>rfl) a y _ _ (fun j hj=>?_) y2,at0⟩,y3⟩;obtain⟨v,v1,v2⟩:=c2 j hj;rw[v1];have h1:=(yKv v2).2.2
      rwa [(vj j).1,(vj j).2] at h1
     obtain⟨xs,x1,x2⟩:=yDm len key;refine⟨xs,rfl,?_,?_⟩
     ·simp only[qB];refine⟨some ad,len,cap,rfl,x1.symm,N3,?_⟩;by_cases h0:xs=[]
      ·exact by grind
      ·refine .inr ⟨ad.block,ad.off,?_,?_,fun i hi=>(x2 i hi).1.1⟩
       ·have:=(x2 0 (List.length_pos_iff.2 h0)).1.2.1 rfl;cases ad;simp at this;rw[this]
       ·exact by grind
     ·simp only[Wf];exact by grind
   ·cases hl
  ·rename_i y n1 n2 n3 hu;split at hl
   ·rename_i a ha;obtain⟨df,hl⟩:=vQ hl;cases hl;have df:P.cellsOf t=ty.size:=by simpa using df
    have fin:∀out,cs.length=P.cellsOf t→((nW P y).mapM fun p=>DataW.trod enc P w 0 (fun _=>true) true fuel p.2 ((cs.drop p.1).take (P.cellsOf p.2)))=some out→fE (DataW.weightsEach P ((nW P y).map (·.2)) (out.map (·.1)))→JA P w ty cs:=by
     intro out hlen ij hw;have:=yJk (fun t' ty' aM x' h1 h2 h3=>Pu d t' ty' fuel aM x' h1 h2 h3) (nW P y) 0 ty cs out ha (by omega) ij hw
     rwa [List.drop_zero,List.take_of_length_le (by omega)] at this
    unfold DataW.trod at h;rw[hu] at h;cases y with
    |struct fs=>
     dsimp only at h;split at h
     ·rename_i hlen;rw[Option.map_eq_some_iff] at h;obtain⟨out,ho,rfl⟩:=h;unfold DataW.weights at hw;rw[hu] at hw;refine fin out hlen ?_ (by rw[nW,List.map_map];exact hw);simp only[nW,List.mapM_map];exact ho
     ·cases h
    |array n e=>
     dsimp only at h;split at h
     ·rename_i hlen;rw[Option.map_eq_some_iff] at h;obtain⟨out,ho,rfl⟩:=h;unfold DataW.weights at hw;rw[hu] at hw;refine fin out hlen ?_ (qXr (fun t ht=>by simp[nW] at ht;exact ht.2.symm) hw);simp only[nW,List.mapM_map];exact ho
     ·cases h
    |_=>simp[nW,E3] at ha
   ·cases hl
  ·cases hl
end
open Go.ChangeShapes Go.WideShapes Go.ChangeAt Go.RowKit
def pI (sh:Bool):Ty→List PC
 |.int k=>[.int k]
 |.bool=>[.bool]
 |.sl t=>[.dat sh t]
 |.pair a b=>pI sh a++pI sh b
def sx:(l m:List PC)→PL l→PL m→PL (l++m)
 |[],_,_,e=>e
 |_::l,m,d,e=>(d.1,sx l m d.2 e)
theorem Pv:∀l m d e,vI (l++m) (sx l m d e)=vI l d++vI m e
 |[],_,_,_=>rfl
 |p::l,m,d,e=>by
  show zy p d.1::vI (l++m) (sx l m d.2 e)=zy p d.1::(vI l d.2++vI m e);rw[Pv l m d.2 e]
def nY sh:(t:Ty)→t.den→PL (pI sh t)
 |.int _,n=>(n,())
 |.bool,b=>(b,())
 |.sl _,xs=>(xs,())
 |.pair a b,p=>sx _ _ (nY sh a p.1) (nY sh b p.2)
def WfP:(p:PC)→p.den→Prop
 |.int k,n=>(Lit.int k n).wf=true
 |.bool,_=>True
 |.dat _ t,xs=>Wf (.sl t) xs
 |.fn _,_=>True
 |.nil,_=>True
 |.nilp,_=>True
def pJ:(l:List PC)→PL l→Prop
 |[],_=>True
 |p::l,d=>WfP p d.1∧pJ l d.2
theorem Pw:∀l m d e,pJ l d→pJ m e→pJ (l++m) (sx l m d e)
 |[],_,_,_,_,h=>h
 |_::l,m,d,e,h,h'=>⟨h.1,Pw l m d.2 e h.2 h'⟩
theorem Px sh:∀t x,Wf t x→pJ (pI sh t) (nY sh t x)
 |.int _,_,h
 |.bool,_,h
 |.sl _,_,h=>⟨h,trivial⟩
 |.pair a b,p,h=>Pw _ _ _ _ (Px sh a p.1 h.1) (Px sh b p.2 h.2)
theorem JB:∀l d,(vI l d).length=l.length
 |[],_=>rfl
 |p::l,d=>by
  show(vI l d.2).length+1=l.length+1;rw[JB l d.2]
def M0 (w:World):zI:=⟨fun _=>none,E4 w,E4 w,jw [],w.heap⟩
theorem vG5 w:Ok (M0 w) where
 obj:=nofun
 non:=fun _ _=>rfl
 disj:=fun i j oi oj Ci Cj b _ h=>by cases h
 own:=nofun
 GF:=fun _ h=>h
 Flt:=fun _ h=>h
theorem Py sh {w}:∀t x cs,cs.length=t.size→qB w.heap (E4 w) t x (fun j=>cs[j]?)→zK (zQ (M0 w)) (vI (pI sh t) (nY sh t x)) cs
 |.int k,n,cs,hl,h=>by
  match cs,hl with
  |[c],_=>
   have e:c=.int k n:=by simpa[qB] using h
   exact⟨e,trivial⟩
 |.bool,b,cs,hl,h=>by
  match cs,hl with
  |[c],_=>
   have e:c=.bool b:=by simpa[qB] using h
   exact⟨e,trivial⟩
 |.sl t,xs,cs,hl,h=>by
  match cs,hl with
  |[c],_=>
   refine⟨?_,trivial⟩;have h':=yR (F':=(bif sh then(M0 w).G else(M0 w).F)) (fun b h=>by cases sh<;>exact h) (fun b _=>rfl) (.sl t) xs (fun j=>[c][j]?) (fun _=>some c) (by grind) h;exact h'
 |.pair a b,p,cs,hl,h=>by
  have dt:cs.length=a.size+b.size:=hl;have h1:=Py sh a p.1 (cs.take a.size) (by grind) (yR (fun _ h=>h) (by simp) a p.1 _ _ (by grind) h.1);have h2:=Py sh b p.2 (cs.drop a.size) (by grind) (yR (by simp) (fun _ _=>rfl) b p.2 _ _ (by grind) h.2);show zK _ (vI (pI sh a++pI sh b) (sx _ _ (nY sh a p.1) (nY sh b p.2))) cs;rw[Pv];have:=zK.append h1 h2;simp_all
def nZ (sh : Bool) (P : Program) (t : TypeId) (ty : Ty) : AS := bif wW P t == some true then .agg (pI sh ty) else (match ty with
 |.int k=>.c (.int k)|.bool=>.c .bool|.sl t=>.c (.dat sh t)|.pair a b=>.agg (pI sh (.pair a b)))
def JC (P:Program):List TypeId→Option (List Ty)
 |[]=>some []
 |t::ts=>match l9 P 8 t,JC P ts with
  |some a,some l=>some (a::l)
  |_,_=>none
def pK (sh:Bool)(P:Program):List TypeId→List Ty→List AS
 |t::ts,a::l=>nZ sh P t a::pK sh P ts l
 |_,_=>[]
theorem vP9 {P t ty}(h:l9 P 8 t=some ty)(ha:(wW P t==some true)=false):(∃k,P.underlying t=some (.int k)∧ty=.int k)∨(P.underlying t=some .bool∧ty=.bool)∨∃e a,P.underlying t=some (.slice e)∧ty=.sl a:=by
 unfold l9 at h;split at h
 ·grind
 ·grind
 ·grind
 ·rename_i x _ _ _ hu;split at h
  ·rename_i a hx;unfold wW at ha;rw[hu] at ha;cases x<;>first|(simp[nW,E3] at hx;done)|(cases ha)
  ·cases h
 ·cases h
section
variable {H:Type} {enc:TypeId×Value→H} {P:Program} {w:World}
theorem vK5 sh {t ty v d ps base}(hl:l9 P 8 t=some ty)(ek:Value.okWide P w .any base t v)(h:DataW.Trod enc P w 0 (fun _=>true) true t v d ps)(hw:fE (d.weights P t)):
  ∃x:PL (nZ sh P t ty).cells,(∀n,zP (M0 w) ((nZ sh P t ty).mk n (vI _ x)) v)∧(nZ sh P t ty).boxes (vI _ x)=[]∧pJ _ x:=by
 obtain⟨fuel,hf⟩:=h;obtain⟨x,x1,x2,x3⟩:=Pu 8 t ty fuel _ _ hl hf hw;have cT:=Py sh ty x _ x1 x2;have Ae:=Px sh ty x x3;unfold nZ;cases ha:(wW P t==some true) with
 |true=>
  refine⟨nY sh ty x,fun n=>?_,rfl,Ae⟩;have nG:wW P t=some true:=by simp_all
  have hv:∃cs,v=.agg cs:=by
   unfold wW at nG;unfold Value.okWide at ek;grind
  obtain⟨cs,rfl⟩:=hv;exact⟨cs,rfl,cT⟩
 |false=>
  rcases vP9 hl ha with⟨k,hu,rfl⟩|⟨hu,rfl⟩|⟨e,a,hu,rfl⟩
  ·have hv:∃n,v=.int k n:=by
    simp[Value.okWide,Cell.okWide] at ek;cases v<;>simp_all[Cell.ok]
   obtain⟨n0,rfl⟩:=hv;exact⟨nY sh _ x,fun n=>cT.1,rfl,Ae⟩
  ·have hv:∃b,v=.bool b:=by
    simp[Value.okWide,Cell.okWide] at ek;cases v<;>simp_all[Cell.ok]
   obtain⟨b,rfl⟩:=hv;exact⟨nY sh _ x,fun n=>cT.1,rfl,Ae⟩
  ·obtain⟨ad,len,cap,rfl⟩:=okWide_slice hu ek;exact⟨nY sh _ x,fun n=>cT.1,rfl,Ae⟩
theorem yHm sh {base}:∀ts tys vs ds ps n,JC P ts=some tys→(∀(j:Nat) t v,ts[j]? =some t→vs[j]? =some v→Value.okWide P w .any base t v)→
  DataW.TrodAll enc P w 0 (fun _=>true) true ts vs ds ps→fE (DataW.weightsEach P ts ds)→∃x:AD (pK sh P ts tys),zK (zP (M0 w)) (jv (pK sh P ts tys) (vI _ x) n).1 vs∧(jv (pK sh P ts tys) (vI _ x) n).2=[]∧pJ _ x
 |[],tys,vs,ds,ps,n,hl,ek,h,_=>by
  match vs,ds,h with
  |[],[],_=>exact⟨(),trivial,rfl,trivial⟩
 |t::ts,tys,vs,ds,ps,n,hl,ek,h,hw=>by
  unfold JC at hl;split at hl
  ·rename_i a l ha dt;cases hl
   match vs,ds,h with
   |v::vs,d::ds,h=>
    obtain⟨p,q,h1,h2,_⟩:=h;have hw:=mL.1 hw;obtain⟨x,x1,x2,x3⟩:=vK5 sh ha (ek 0 t v rfl rfl) h1 hw.1;obtain⟨y,y1,y2,y3⟩:=yHm sh ts l vs ds q n dt (fun j t' v' h1 h2=>ek (j+1) t' v' h1 h2) h2 hw.2;refine⟨sx _ _ x y,?_⟩;have e:vI ((pK sh P (t::ts) (a::l)).flatMap AS.cells) (sx _ _ x y)=vI _ x++vI _ y:=Pv _ _ _ _;have ht:(vI _ x++vI _ y).take (nZ sh P t a).cells.length=vI _ x:=by
     rw[List.take_append_of_le_length (by rw[JB];omega),List.take_of_length_le (by rw[JB];omega)]
    have hd:(vI _ x++vI _ y).drop (nZ sh P t a).cells.length=vI _ y:=by
     rw[List.drop_append_of_le_length (by rw[JB];exact by simp),List.drop_of_length_le (by grind),List.nil_append]
    rw[e];have em:jv (pK sh P (t::ts) (a::l)) (vI _ x++vI _ y) n=((nZ sh P t a).mk n (vI _ x)::(jv (pK sh P ts l) (vI _ y) n).1,(jv (pK sh P ts l) (vI _ y) n).2):=by
     show((nZ sh P t a).mk n _::_,(nZ sh P t a).boxes _++_)=_;simp_all
    rw[em];exact⟨⟨x1 n,y1⟩,y2,Pw _ _ _ _ x3 y3⟩
  ·cases hl
theorem yG7 {us}{gs:List (DataW H)}:∀{ts ds},ts.length=ds.length→fE (DataW.weightsEach P (ts++us) (ds++gs))→fE (DataW.weightsEach P ts ds)
 |[],[],_,_=>by rfl
 |t::ts,d::ds,hl,h=>mL.2 ⟨(mL.1 h).1,yG7 (by simp_all) (mL.1 h).2⟩
theorem yAh:∀{ts vs ds ps},DataW.TrodAll enc P w 0 (fun _=>true) true ts vs ds ps→ts.length=ds.length
 |[],[],[],_,_=>rfl
 |_::_,_::_,_::_,_,⟨_,_,_,h,_⟩=>by rw[List.length_cons,List.length_cons,yAh h]
theorem lawArgs sh {base ts tys asp vs ds ps}(hl:JC P ts=some tys)(has:pK sh P ts tys=asp)
  (ek:∀(j:Nat) t v,ts[j]? =some t→vs[j]? =some v→Value.okWide P w .any base t v) (h:DataW.TrodAll enc P w 0 (fun _=>true) true ts vs ds ps) {us gs} (hw:fE (DataW.weightsEach P (ts++us) (ds++gs))):
  ∃x:AD asp,zK (zP (M0 w)) (jv asp (vI _ x) 0).1 vs∧(jv asp (vI _ x) 0).2=[]∧pJ _ x:=by
 subst has;exact yHm sh ts tys vs ds ps 0 hl ek h (yG7 (yAh h) hw)
theorem law_calls {E}(hE:fb E)(hS:il E.sums)(hm:E.P.follows .mixedOrders=true){A k pre f fn}(hf:E.P.funcs[f]? =some fn)(hL:∀c,fn.body=some c→wA E.P A pre 0 fn.ntmps c)
  {as d unpack} (hup:∀d,unpack d=d.1) (aW:ja E A k pre 0 fn (mI as d).1 (mI as d).2 (kB (.c .bool) unpack)=some true) (hb:(jv as (vI _ d) 0).2=[]) {vs} (hv:zK (zP (M0 w)) (jv as (vI _ d) 0).1 vs.toList):
  Calls E.P f vs w fun e w'=>e=.returned (.bool true)∧Below w.heap.size w w':=by
 have hh:(M0 w).h=(mI as d).2:=by
  show jw []=jw (jv as (vI _ d) 0).2;rw[hb]
 refine Calls.mono (O7 hE hS hm hf hL aW (M:=M0 w) (w:=w) hh rfl (vG5 w) hv) fun e w' he=>?_
 cases e with
 |returned rv=>
  obtain⟨M',v,st,hK,_,hH,_,hg,_,hrv,o1,o2,o3,_⟩:=he;refine⟨?_,o1,o2,o3,?_,fun b hb=>?_⟩
  ·unfold kB at hK;split at hK
   ·rename_i r hr;unfold EZ at hr;split at hr
    ·rename_i cs lh;split at hr
     ·rename_i aM u zb;cases v with
      |c x=>
       cases lh;have e1:aM=[x]:=by
        simp[RS.cells,RC.isFro,jY] at zb;simp_all
       subst e1;have sb:iu (qF st.h u) [.bool] [x]=some r:=hr;cases x with
       |bool b=>
        have e2:r=(b,()):=by simp[iu,mJ] at sb;grind
        have:rv=.bool b:=hrv;grind
       |_=>simp[iu,mJ] at sb
      |_=>cases lh
     ·cases hr
    ·cases hr
   ·cases hK
  ·have:=hg.size;rw[hH] at this;exact this
  ·have:=hg.same b hb;rw[hH] at this;exact this
 |_=>simp_all
end
inductive XC where
 |p (c:PC)|own (t:Ty)|mat|map
 |link (j:Nat)
abbrev XC.den:XC→Type
 |.p c=>c.den|.own t=>List t.den|.mat=>List (List Int)|.map=>List (Int×Bool)|.link _=>Unit
def XC.lnk:XC→Option Nat
 |.link j=>some j
 |_=>none
def RC.lnk:RC→Option Nat
 |.link j=>some j
 |_=>none
def n9:List (Option Nat)→List Nat→List zV→Bool
 |none::l,ids,_::cs=>n9 l ids cs
 |some j::l,ids,.ptr id 0::cs=>(match ids[j]? with|some k=>Nat.beq id k|none=>false)&&n9 l ids cs
 |some _::_,_,_=>false
 |_,_,_=>true
def vk:List (Option Nat)→List Nat→List zV→List zV
 |none::l,ids,c::cs=>c::vk l ids cs
 |some j::l,ids,c::cs=>(match ids[j]? with|some id=>.ptr id 0|none=>c)::vk l ids cs
 |_,_,cs=>cs
def Pz:List zV→Option Nat
 |[]=>none
 |.ptr id 0::_=>some id
 |_::l=>Pz l
def E5 (h:Hp):Nat→Nat→Option (List Nat)
 |0,_=>none
 |1,id=>some [id]
 |n+2,id=>match zx h id with
  | some cells => (match Pz cells with
   |some id2=>(match E5 h (n+1) id2 with|some l=>some (id::l)|none=>none)
   |none=>none)
  |none=>none
def jx:Nat→Nat→List Nat
 |_,0=>[]
 |n,m+1=>n::jx (n+1) m
abbrev XL:List XC→Type
 |[]=>Unit
 |c::l=>c.den×XL l
inductive AX where
 |c (x:XC)|agg (l:List PC)|ptr (io:Bool) (l:List XC)|fn (f:Nat) (bp:List (Bool×List XC))
 |chn (ls:List (List XC))
def AX.cells:AX→List XC
 |.c x=>[x]
 |.agg l=>l.map .p
 |.ptr _ l=>l
 |.fn _ bp=>bp.flatMap (·.2)
 |.chn ls=>ls.flatten
def AX.nb:AX→Nat
 |.ptr _ _=>1
 |.fn _ bp=>bp.length
 |.chn ls=>ls.length
 |_=>0
def AX.isChn:AX→Bool
 |.chn _=>true
 |_=>false
def Af (ls:List (List XC)):List (Bool×List XC):=ls.map fun l=>(true,l)
abbrev XD (l:List AX):Type:=XL (l.flatMap AX.cells)
def AX.looks:AX→Bool
 |.ptr _ _=>true
 |.fn _ _=>true
 |_=>false
def E6 (l:List AX)(na:Nat):Bool:=l.zipIdx.all fun p=> !p.1.looks||Nat.blt p.2 na
def Ag (h:Hp)(io:Bool)(id:Nat):Option (List zV):=match io,h id with
 |true,some (.box true cells)=>some cells
 |false,some (.box _ cells)=>some cells
 |false,some (.robox cells)=>some cells
 |_,_=>none
def gI (h:Hp):List (Bool×List XC)→List Nat→Option (List zV×List (Bool×Nat))
 |[],[]=>some ([],[])
 |(io,l)::ls,id::ids=>match Ag h io id,gI h ls ids with
  |some cells,some (rest,bs)=>bif Nat.beq cells.length l.length then some (cells++rest,(io,id)::bs) else none
  |_,_=>none
 |_,_=>none
def AX.get (h:Hp):AX→zT→Option (List zV×List (Bool×Nat))
 |.c _,.c x=>some ([x],[])
 |.agg l,.agg xs=>bif Nat.beq xs.length l.length then some (xs,[]) else none
 |.ptr io l,.c (.ptr id 0)=>gI h [(io,l)] [id]
 |.fn f bp,.c (.fn g ids)=>bif Nat.beq f g then gI h bp ids else none
 |.chn ls,.c (.ptr id 0)=>match E5 h ls.length id with
  |some ids=>gI h (Af ls) ids
  |none=>none
 |_,_=>none
def ix (h:Hp):List AX→List zT→Option (List zV×List (Bool×Nat))
 |[],[]=>some ([],[])
 |s::l,a::as=>match s.get h a,ix h l as with
  |some (cs,bs),some (aM,vl)=>some (cs++aM,bs++vl)
  |_,_=>none
 |_,_=>none
def E7 (h:Hp):(x:XC)→zV→Option x.den
 |.p p,c=>pG h p c
 |.own t,.osl id none=>match h id with
  |some (.arr true s xs)=>fx s t xs
  |_=>none
 |.mat,.osl id none=>match h id with
  |some (.mat _ xs)=>some xs
  |_=>none
 |.map,.map id=>match h id with
  |some (.imap cL)=>some cL
  |_=>none
 |.link _,.ptr _ 0=>some ()
 |_,_=>none
def mM (h:Hp):(l:List XC)→List zV→Option (XL l)
 |[],[]=>some ()
 |x::l,c::cs=>match E7 h x c,mM h l cs with
  |some d,some ds=>some (d,ds)
  |_,_=>none
 |_,_=>none
def wL:List XC→List zV→List Nat
 |.p _::l,_::cs=>wL l cs
 |.link _::l,_::cs=>wL l cs
 |_::l,.osl id _::cs=>id::wL l cs
 |_::l,.map id::cs=>id::wL l cs
 |_::l,_::cs=>wL l cs
 |_,_=>[]
def E8:List XC→List zV→List Nat
 |.p _::l,c::cs=>yY c++E8 l cs
 |_::l,_::cs=>E8 l cs
 |_,_=>[]
def vT:Nat:=500
def fF:(l:List XC)→XL l→Nat→List zV×List Obj
 |[],_,_=>([],[])
 |.p p::l,d,n=>let r:=fF l d.2 n;(zy p d.1::r.1,r.2)
 |.own t::l,d,n=>let r:=fF l d.2 (n+1);(.osl n none::r.1,.arr true t d.1::r.2)
 |.mat::l,d,n=>let r:=fF l d.2 (n+1);(.osl n none::r.1,.mat 0 d.1::r.2)
 |.map::l,d,n=>let r:=fF l d.2 (n+1);(.map n::r.1,.imap d.1::r.2)
 |.link j::l,d,n=>let r:=fF l d.2 n;(.ptr j 0::r.1,r.2)
def E9:List (Bool×List XC)→List zV→List Obj
 |[],_=>[]
 |(io,l)::ls,cs=>(bif io then .box true (cs.take l.length) else .robox (cs.take l.length))::E9 ls (cs.drop l.length)
def AX.mk (n:Nat)(cs:List zV):AX→zT
 |.c _=>match cs with|x::_=>.c x|[]=>.undef
 |.agg _=>.agg cs
 |.ptr _ _=>.c (.ptr n 0)
 |.fn f bp=>.c (.fn f ((List.range bp.length).map (n+·)))
 |.chn _=>.c (.ptr n 0)
def AX.boxes (cs:List zV):AX→List Obj
 |.ptr io l=>E9 [(io,l)] cs
 |.fn _ bp=>E9 bp cs
 |.chn ls=>E9 (Af ls) cs
 |_=>[]
def vm:List AX→List zV→Nat→List zT×List Obj
 |[],_,_=>([],[])
 |s::l,cs,n=>
  let aj:=cs.take s.cells.length;let bs:=s.boxes aj;let rest:=vm l (cs.drop s.cells.length) (n+bs.length)
  (s.mk n aj::rest.1,bs++rest.2)
def Fa (bs rows:List Obj):Hp:=fun n=>bif Nat.ble vT n then rows[n-vT]? else bs[n]?
def mN l (d:XD l):List zT×Hp:=
 let r:=fF (l.flatMap AX.cells) d vT;let m:=vm l r.1 0
 (m.1,Fa m.2 r.2)
def Fc:List (Bool×List XC)→List Nat→Option (List Nat)
 |[],[]=>some []
 |(io,_)::ls,id::ids=>match Fc ls ids with
  |some l=>some (bif io then id::l else l)
  |none=>none
 |_,_=>none
def AX.io (b:Nat):AX→zT→Option (List Nat)
 |.c _,_=>some []
 |.agg _,_=>some []
 |.ptr io l,.c (.ptr id 0)=>Fc [(io,l)] [id]
 |.fn _ bp,.c (.fn _ ids)=>Fc bp ids
 |.chn ls,_=>some (jx b ls.length)
 |_,_=>none
def JD:List AX→(Nat→zT)→Nat→Nat→Option (List Nat)
 |[],_,_,_=>some []
 |s::l,t,n,b=>match s.io b (t n),JD l t (n+1) (b+s.nb) with
  |some a,some b=>some (a++b)
  |_,_=>none
def Ah (h:Hp):List (List RC)→List Nat→Option (List zV)
 |[],[]=>some []
 |o::os,n::ns=>match h n,Ah h os ns with
  |some (.box true cells),some rest=>bif Nat.beq cells.length o.length then some (cells++rest) else none
  |_,_=>none
 |_,_=>none
def PA (h:Hp)(ns:Nat)(cs:List zV):Option (List Nat):=bif Nat.beq ns 0 then some [] else match Pz cs with
 |some id=>E5 h ns id
 |none=>none
def Ai (st:St)(as:List AX)(rs:RS)(os:List (List RC))(ns:Nat)(v:zT):Option (RL (rs.cells++os.flatten)):=
 match JD as st.t 0 0 with
 |none=>none
 |some io=>match rs.get v with
  |none=>none
  |some cs=>match PA st.h ns cs with
   |none=>none
   |some nw=>match Ah st.h os (io++nw) with
    |none=>none
    | some bs => bif o0 (io ++ nw) then (match jY st.h ((rs.cells++os.flatten).map RC.isFro) (cs++bs) with
     |some (cs,u)=>bif o0 (vM (rs.cells++os.flatten) cs)&&n9 ((rs.cells++os.flatten).map RC.lnk) (io++nw) cs then iu (qF st.h u) (rs.cells++os.flatten) cs else none
     |none=>none) else none
def Fe (as:List AX)(rs:RS)(os:List (List RC))(ns:Nat){X:Type}(unpack:RL (rs.cells++os.flatten)→X)(v:zT)(st:St):Option X:=match Ai st as rs os ns v with
 |some d=>some (unpack d)
 |none=>none
def sy:List (List RC)→List zV→List (List zV)
 |[],_=>[]
 |o::os,cs=>cs.take o.length::sy os (cs.drop o.length)
def vB:List (Bool×Nat)→List Nat
 |[]=>[]
 |(true,id)::l=>id::vB l
 |(false,_)::l=>vB l
def JE:List (Bool×Nat)→List Nat
 |[]=>[]
 |(true,_)::l=>JE l
 |(false,id)::l=>id::JE l
def Aj:List Nat→List (List zV)→yV
 |id::ids,cs::css=>(id,.box true cs)::Aj ids css
 |_,_=>[]
def mO (ids:List Nat):yV:=ids.map fun id=>(id,.gone)
def yZm (nm:Nat)(rs:RS)(os:List (List RC))(ids:List Nat)(d:RL (rs.cells++os.flatten)):zT×yV:=
 let r:=lW nm (rs.cells++os.flatten) d;let cs:=vk ((rs.cells++os.flatten).map RC.lnk) ids r.1
 (rs.mk (cs.take rs.cells.length),r.2++Aj ids (sy os (cs.drop rs.cells.length)))
def PB (a b:List Nat):Bool:=a.all fun x=> !b.any (Nat.beq x)
def sA (h:Hp):AX→zT→Option (zT×yV)
 |.c (.p p),.c x=>match jY h [p.isKept] [x] with
  |some ([x],u)=>some (.c x,u)
  |_=>none
 |.agg l,.agg xs=>match jY h (l.map PC.isKept) xs with
  |some (xs,u)=>some (.agg xs,u)
  |none=>none
 |_,a=>some (a,[])
def oc (h:Hp):List AX→List zT→Option (List zT×yV)
 |s::l,a::as=>match sA h s a,oc h l as with
  |some (a,u),some (as,us)=>some (a::as,u++us)
  |_,_=>none
 |_,as=>some (as,[])
def Ak as (nm n:Nat)(args:List zT)(h:Hp):Option (yV×List Nat×List Nat×XD as):=
 match oc h as args with
 |none=>none
 |some (args,u)=>match ix (qF h u) as args with
  |none=>none
  |some (cs,bs)=>match mM (qF h u) (as.flatMap AX.cells) cs with
   |none=>none
   |some d=>
    let rows:=wL (as.flatMap AX.cells) cs;let aj:=vB bs++rows
    bif sn h nm n&&Nat.ble n 100&&Nat.ble bs.length vT&&o0 aj&&PB aj (E8 (as.flatMap AX.cells) cs)&&PB aj (JE bs)&&n9 ((as.flatMap AX.cells).map XC.lnk) (bs.map (·.2)) cs then
     some (u,vB bs,rows,d)
    else none
def PD (u:yV)(io rows:List Nat)(rs:RS)(os:List (List RC))(ns nm:Nat)(d:RL (rs.cells++os.flatten)):zT×yV:=
 let r:=yZm nm rs os (io++jx (nm+(rs.cells++os.flatten).length) ns) d
 (r.1,u++(mO rows++r.2))
def oe as (rs:RS)(os:List (List RC))(ns:Nat){X}(S:XD as→Option X)(pack:X→RL (rs.cells++os.flatten))(nm:Nat)(args:List zT)(h:Hp):yL:=
 match Ak as nm ((rs.cells++os.flatten).length+ns) args h with
 |none=>.stuck
 |some (u,io,rows,d)=>.call X (S d) fun r=>PD u io rows rs os ns nm (pack r)
def iS (M:zI)(aj:List Nat)(b:Nat):Prop:=∃id∈aj,∃C,M.κ id=some C∧b∈C.fp
structure og (M:zI) (aj:List Nat) (Ml:zI):Prop where
 H:Ml.H=M.H
 F:Ml.F=fun b=>b<M.H.size∧¬iS M aj b
 G:Ml.G=M.G
def lk (M:zI)(aj:List Nat):Prop:=∀id∈aj,∃o,M.h id=some o∧o.owned=true
theorem iS.own {M aj}(ho:lk M aj){b}(h:iS M aj b):qJ M b:=by
 obtain⟨id,ah,C,hC,hb⟩:=h;obtain⟨o,h1,h2⟩:=ho id ah;exact⟨id,o,C,h1,h2,hC,hb⟩
theorem pL {M}(ok:Ok M){aj}(ho:lk M aj){b}(h:M.F b):b<M.H.size∧¬iS M aj b:=⟨ok.Flt b h,fun hh=>(ok.own b (hh.own ho)).1 h⟩
theorem yR9 {M M'}(ok:Ok M){aj}(ho:lk M aj){id o}(hn:id∉aj)(hh:M'.h=qX M.h id o)(hκ:M'.κ=M.κ)(hH:M'.H=M.H)(ie:Ok M'){b}(h:M'.G b):b<M.H.size∧¬iS M aj b:=by
 have hf:=ie.GF b h;refine⟨by have:=ie.Flt b hf;simp_all,fun hd=>?_⟩;obtain⟨jd,hj,C,hC,hb⟩:=hd;obtain⟨q,h1,h2⟩:=ho jd hj;refine(ie.own b ⟨jd,q,C,?_,h2,?_,hb⟩).1 hf
 ·rw[hh,yJ _ _ (by grind)];exact h1
 simp_all
theorem yXc {M}(ok:Ok M){aj}(ho:lk M aj){c v t xs}(hn:∀id∈yY c,id∉aj)(hv:zQ M c v)(h:gZ M.h c=some ⟨t,xs⟩):
  qB M.H (fun b=>b<M.H.size∧¬iS M aj b) (.sl t) xs (fun _=>some v):=by
 unfold gZ at h;split at h
 ·rename_i sh s ys;cases h;cases sh with
  |true=>exact yR (fun b hb=>pL ok ho (ok.GF b hb)) (by simp) _ _ _ _ (fun _ _=>rfl) hv
  |false=>exact yR (fun b hb=>pL ok ho hb) (by simp) _ _ _ _ (fun _ _=>rfl) hv
 ·rename_i id r;have mA:id∉aj:=hn id (by simp[yY]);split at h
  ·rename_i own s ys ah;cases h;cases own with
   |false=>
    obtain⟨C,hC,hO⟩:=ok.obj _ _ ah;exact yR (fun b hb=>pL ok ho (ok.GF b hb)) (by simp) _ _ _ _ (by simp) (uw hC hO hv)
   |true=>
    obtain⟨M',h1,h2,h3,h4,h5⟩:=Yz ok ah;obtain⟨C,hC,hO⟩:=h3.obj id _ (by rw[h2];exact yE _ _ _);have:=uw hC hO (hv.ext h4.ext);exact yR (fun b hb=>yR9 ok ho mA h2 h5 h1 h3 hb) (by grind) _ _ _ _ (by simp) this
  ·rename_i ver ys ah;cases r with
   |some p=>cases h
   |none=>
    cases h;obtain⟨M',h1,h2,h3,h4,h5⟩:=YB ok ah;obtain⟨C,hC,hO⟩:=h3.obj id _ (by rw[h2];exact yE _ _ _);have:=uw (r:=none) hC hO (hv.ext h4.ext);exact yR (fun b hb=>yR9 ok ho mA h2 h5 h1 h3 hb) (by grind) _ _ _ _ (by simp) this
  ·cases h
 ·rename_i id i ver;have mA:id∉aj:=hn id (by simp[yY]);split at h
  ·rename_i v' ys ah;cases eu:Nat.beq v' ver with
   |false=>rw[eu] at h;cases h
   |true=>
    rw[eu] at h;cases h;have e:v'=ver:=by simpa using eu
    subst e;obtain⟨C,hC,hO⟩:=ok.obj _ _ ah;obtain⟨C',aw,cc,_,aU⟩:=hv;rw[hC] at aw;cases aw;obtain⟨rb,rl,sf,nO⟩:=aU hO.1;by_cases hi:i<ys.length
    ·obtain⟨B,mB,v2,k1,k2,k3,k4,k5,k6⟩:=yy hO hi;rw[sf] at k3;cases k3;rw[show ys.getD i []=ys[i] by simp[List.getD,hi]];simp only[qB];cases rb with
     |none=>
      obtain⟨rfl,h0⟩:=nO;grind
     |some R=>
      obtain⟨a,c,rfl,h1,h2,h3⟩:=nO;refine⟨_,_,c,rfl,rfl,h1,?_⟩;by_cases h0:ys[i].length=0
      ·simp_all
      ·have ha:a=0:=by omega
       subst ha;have hR:R∈C.fp:=by
        simp only[zZ.fp,List.mem_append,List.mem_filterMap];grind
       refine .inr ⟨R,0,rfl,⟨?_,fun hd=>?_⟩,fun j hj=>?_⟩
       ·have:=k6 R rfl 0 (by omega);unfold yH at this;grind
       ·obtain⟨jd,hj,D,hD,hb⟩:=hd;obtain⟨q,q1,q2⟩:=ho jd hj;exact ok.disj jd id q _ D C R (by grind) q1 ah q2 rfl hD hC hb hR
       ·simp only[qB,Ty.size,Nat.zero_add,Nat.mul_one,Nat.add_zero];exact by grind
    ·have:C.rows[i]? =none:=List.getElem?_eq_none (by have:=hO.2.2.2.1;omega);simp_all
  ·cases h
 ·cases h
def TrX (M:zI)(aj:List Nat)(c c':zV):Prop:=∀v Ml,og M aj Ml→zQ M c v→zQ Ml c' v
theorem vA1 {M}(ok:Ok M){aj}(ho:lk M aj){p c d}(hn:∀id∈yY c,id∉aj)(h:pG M.h p c=some d):TrX M aj c (zy p d):=by
 intro v Ml lo hv;unfold pG at h;split at h
 ·rename_i k j n;cases e:jW j k with
  |false=>simp_all
  |true=>rw[e] at h;cases h;rw[←oW e];exact hv
 ·cases h;exact hv
 ·show qB Ml.H Ml.F _ _ _;rw[lo.H,lo.F];unfold uZ at h;split at h
  ·cases h;rw[show v=.slice none 0 0 from hv];exact E0
  ·split at h
   ·rename_i s ys hr;obtain⟨e,hx⟩:=iP h;subst e;subst hx;exact yXc ok ho hn hv hr
   ·cases h
 ·obtain⟨e,hx⟩:=iP h;subst e;subst hx;show qB Ml.H Ml.G _ _ _;rw[lo.H,lo.G];exact hv
 ·cases h;rw[show v=.slice none 0 0 from hv];exact E0
 ·rename_i f g;cases e:Nat.beq f g with
  |false=>simp_all
  |true=>
   have:f=g:=by simp_all
   subst this;obtain⟨cv,rfl,hc⟩:=hv;refine⟨cv,rfl,?_⟩;generalize cv.toList=l at hc;cases l with
   |nil=>trivial
   |cons _ _=>exact hc.elim
 ·exact hv
 ·exact hv
 ·cases h
def oh (M:zI)(aj:List Nat)(κ:Nat→Option zZ)(c c':zV):Prop:=∀v Ml,og M aj Ml→Ml.κ=κ→zQ M c v→zQ Ml c' v
structure vGq (M:zI) (id:Nat) (o:Obj) (C:zZ):Prop where
 κ:M.κ id=some C
 rep:∀Ml:zI,Ml.H=M.H→Ml.G=M.G→yP Ml o {C with ver:=0}
 own:o.owned=true
 was:∃q,M.h id=some q∧q.owned=true
theorem vA9 {M Ml}(hH:Ml.H=M.H){cL C}(h:yP M (.imap cL) C):yP Ml (.imap cL) {C with ver:=0}:=by
 obtain⟨B,es,ck,h1,h2,h3,h4,h5⟩:=h;exact⟨B,es,ck,h1,h2,by simp_all,h4,h5⟩
theorem yEh {j l ids c cs}(h:n9 (some j::l) ids (c::cs)=true):∃id,c=.ptr id 0∧ids[j]? =some id∧n9 l ids cs=true:=by
 cases c with
 |ptr id off=>
  cases off with
  |zero=>
   have h:((match ids[j]? with|some k=>Nat.beq id k|none=>false)&&n9 l ids cs)=true:=h;rw[Bool.and_eq_true] at h;have h1:=h.1;split at h1;all_goals simp_all
  |succ _=>cases h
 |_=>cases h
theorem Al {M}(ok:Ok M){aj}(ho:lk M aj){κ}:∀{l cs d n ids},mM M.h l cs=some d→n9 (l.map XC.lnk) ids cs=true→(∀id∈E8 l cs,id∉aj)→
  (wL l cs).length=(fF l d n).2.length∧(∀(i:Nat) id o,(wL l cs)[i]? =some id→(fF l d n).2[i]? =some o→∃C,vGq M id o C)∧
   ((∀i id C,(wL l cs)[i]? =some id→M.κ id=some C→κ (n+i)=some {C with ver:=0})→(∀j id,ids[j]? =some id→κ j=M.κ id)→zK (oh M aj κ) cs (fF l d n).1)
 |[],[],_,n,_,_,_,_=>⟨rfl,nofun,fun _ _=>trivial⟩
 |x::l,c::cs,d,n,ids,h,hl,hn=>by
  unfold mM at h;split at h
  ·rename_i y ys h1 h2;cases h;cases x with
   |p p=>
    have kC:∀id∈yY c,id∉aj:=fun id ah=>hn id (List.mem_append_left _ ah)
    obtain⟨k1,k2,k3⟩:=Al ok ho (κ:=κ) (n:=n) (ids:=ids) h2 hl (fun id ah=>hn id (List.mem_append_right _ ah));exact⟨k1,k2,fun hκ hj=>⟨fun v Ml lo _ hv=>vA1 ok ho kC h1 v Ml lo hv,k3 hκ hj⟩⟩
   |own t=>
    cases c with
    |osl id r=>
     cases r with
     |some _=>cases h1
     |none=>
      have h1:(match M.h id with|some (.arr true s xs)=>fx s t xs|_=>none)=some y:=h1;split at h1
      ·rename_i s xs ah;obtain⟨e,hx⟩:=iP h1;subst e;subst hx;obtain⟨C,hC,hO⟩:=ok.obj id _ ah;obtain⟨k1,k2,k3⟩:=Al ok ho (κ:=κ) (n:=n+1) (ids:=ids) h2 hl hn;refine⟨by simp only[wL,fF,List.length_cons,k1],fun i jd o hi jc=>?_,fun hκ hj=>⟨fun v Ml lo hk hv=>?_,k3 (fun i jd D hi hD=>?_) hj⟩⟩
       ·cases i with
        |zero=>
         cases hi;cases jc;refine⟨C,hC,fun Ml e1 e2=>?_,rfl,_,ah,rfl⟩;obtain⟨q1,q2,q3,q4⟩:=hO;refine⟨q1,q2,q3,?_⟩;rw[e1,e2];exact q4
        |succ i=>exact k2 i jd o hi jc
       ·obtain⟨D,hD,hS⟩:=hv;rw[hC] at hD;cases hD;refine⟨{C with ver:=0},by rw[hk];exact hκ 0 id C rfl hC,?_⟩;rw[lo.H];exact hS
       ·have:=hκ (i+1) jd D hi hD;rw[←this];congr 1;omega
      ·cases h1
    |_=>cases h1
   |mat=>
    cases c with
    |osl id r=>
     cases r with
     |some _=>cases h1
     |none=>
      have h1:(match M.h id with|some (.mat _ xs)=>some xs|_=>none)=some y:=h1;split at h1
      ·rename_i ver xs ah;cases h1;obtain⟨C,hC,hO⟩:=ok.obj id _ ah;obtain⟨k1,k2,k3⟩:=Al ok ho (κ:=κ) (n:=n+1) (ids:=ids) h2 hl hn;refine⟨by simp only[wL,fF,List.length_cons,k1],fun i jd o hi jc=>?_,fun hκ hj=>⟨fun v Ml lo hk hv=>?_,k3 (fun i jd D hi hD=>?_) hj⟩⟩
       ·cases i with
        |zero=>
         cases hi;cases jc;refine⟨C,hC,fun Ml e1 e2=>?_,rfl,_,ah,rfl⟩;obtain⟨q1,q2⟩:=hO;refine⟨rfl,?_⟩;rw[e1];exact q2
        |succ i=>exact k2 i jd o hi jc
       ·obtain⟨D,hD,hS⟩:=hv;rw[hC] at hD;cases hD;refine⟨{C with ver:=0},by rw[hk];exact hκ 0 id C rfl hC,?_⟩;show wE Ml.H {C with ver:=0} 0 C.len v;rw[lo.H];exact hS
       ·have:=hκ (i+1) jd D hi hD;rw[←this];congr 1;omega
      ·cases h1
    |_=>cases h1
   |map=>
    cases c with
    |map id=>
     have h1:(match M.h id with|some (.imap cL)=>some cL|_=>none)=some y:=h1;split at h1
     ·rename_i cL ah;cases h1;obtain⟨C,hC,hO⟩:=ok.obj id _ ah;obtain⟨k1,k2,k3⟩:=Al ok ho (κ:=κ) (n:=n+1) (ids:=ids) h2 hl hn;refine⟨by simp only[wL,fF,List.length_cons,k1],fun i jd o hi jc=>?_,fun hκ hj=>⟨fun v Ml lo hk hv=>?_,k3 (fun i jd D hi hD=>?_) hj⟩⟩
      ·cases i with
       |zero=>
        cases hi;cases jc;exact⟨C,hC,fun Ml e1 e2=>vA9 e1 hO,rfl,_,ah,rfl⟩
       |succ i=>exact k2 i jd o hi jc
      ·obtain⟨D,B,hD,hB,e⟩:=hv;rw[hC] at hD;cases hD;exact⟨{C with ver:=0},B,by rw[hk];exact hκ 0 id C rfl hC,hB,e⟩
      ·have:=hκ (i+1) jd D hi hD;rw[←this];congr 1;omega
     ·cases h1
    |_=>cases h1
   |link j=>
    obtain⟨id,rfl,ah,dt⟩:=yEh hl;obtain⟨k1,k2,k3⟩:=Al ok ho (κ:=κ) (n:=n) (ids:=ids) h2 dt hn;refine⟨k1,k2,fun hκ hj=>⟨fun v Ml lo hk hv=>?_,k3 hκ hj⟩⟩;obtain⟨C,B,hC,hB,e⟩:=hv;exact⟨C,B,by rw[hk,hj j id ah];exact hC,hB,e⟩
  ·cases h
 |[],_::_,_,_,_,h,_,_=>by cases h
 |_::_,[],_,_,_,h,_,_=>by cases h
theorem Ff {M Ml aj}(lo:og M aj Ml):∀{cs aM vs},zK (oh M aj Ml.κ) cs aM→zK (zQ M) cs vs→zK (zQ Ml) aM vs
 |[],[],[],_,_=>trivial
 |_::_,_::_,_::_,h,k=>⟨h.1 _ _ lo rfl k.1,Ff lo h.2 k.2⟩
def Am (aj:List Nat)(bs:List (Bool×Nat)):Prop:=∀b∈bs,(b.1=true→b.2∈aj)∧(b.1=false→b.2∉aj)
theorem vBp {M}(ok:Ok M){aj}(ho:lk M aj){io id cells}(h:Ag M.h io id=some cells)(hm:(io=true→id∈aj)∧(io=false→id∉aj)):
  ∃C B,M.κ id=some C∧C.blk=some B∧∀Ml bB,og M aj Ml→zK (oh M aj Ml.κ) cells bB→yP Ml (bif io then .box true bB else .robox bB) C:=by
 unfold Ag at h;split at h
 ·rename_i cs ah;cases h;obtain⟨C,hC,B,vals,e,h1,h2,h3,h4,h5⟩:=ok.obj id _ ah;exact⟨C,B,hC,h1,fun Ml bB lo ht=>⟨B,vals,e,h1,h2,by rw[lo.H];exact h3,Ff lo ht h4,by simp⟩⟩
 ·rename_i own cs ah;cases h;obtain⟨C,hC,B,vals,e,h1,h2,h3,h4,h5⟩:=ok.obj id _ ah;refine⟨C,B,hC,h1,fun Ml bB lo ht=>⟨B,vals,e,h1,h2,by rw[lo.H];exact h3,Ff lo ht h4,?_⟩⟩;rw[lo.F];cases own with
  |false=>exact pL ok ho (ok.GF B (h5 rfl))
  |true=>
   refine⟨by grind,fun hd=>?_⟩;obtain⟨jd,hj,D,hD,hb⟩:=hd;obtain⟨q,q1,q2⟩:=ho jd hj;exact ok.disj jd id q _ D C B (by grind) q1 ah q2 rfl hD hC hb (by simp[zZ.fp,h1])
 ·rename_i cs ah;cases h;obtain⟨C,hC,B,vals,e,h1,h2,h3,h4,h5⟩:=ok.obj id _ ah;refine⟨C,B,hC,h1,fun Ml bB lo ht=>⟨B,vals,e,h1,h2,by rw[lo.H];exact h3,Ff lo ht h4,?_⟩⟩;rw[lo.F];exact pL ok ho h5
 ·cases h
def PE (M:zI)(aj:List Nat)(bs:List (Bool×Nat))(mk:List zV→List Obj)(cs:List zV):Prop:=∀(Ml:zI) (aM:List zV),og M aj Ml→zK (oh M aj Ml.κ) cs aM→
 zK (fun(b:Bool×Nat) o=>∃C B,M.κ b.2=some C∧C.blk=some B∧yP Ml o C∧o.owned=b.1) bs (mk aM)
theorem JF {M}(ok:Ok M){aj}(ho:lk M aj):∀{ls ids cs bs},gI M.h ls ids=some (cs,bs)→Am aj bs→
  cs.length=(ls.flatMap (·.2)).length∧bs=(ls.map (·.1)).zip ids∧ids.length=ls.length∧PE M aj bs (E9 ls) cs
 |[],[],cs,bs,h,_=>by cases h;exact⟨rfl,rfl,rfl,fun _ _ _ _=>trivial⟩
 |(io,l)::ls,id::ids,cs,bs,h,hf=>by
  unfold gI at h;split at h
  ·rename_i cells rest vl h1 h2;obtain⟨hl,h⟩:=vQ h;cases h;have hl:cells.length=l.length:=Nat.eq_of_beq_eq_true hl;obtain⟨C,B,hC,hB,hO⟩:=vBp ok ho h1 (hf _ (List.mem_cons_self ..));obtain⟨k1,k2,k3,k4⟩:=JF ok ho h2 fun b hb=>hf b (by grind)
   refine⟨by simp_all,by simp_all,by simp[k3],fun Ml aM lo ht=>?_⟩;have lY:=zK.take l.length ht;have lg:=zK.drop l.length ht;rw[←hl,List.drop_left] at lg;refine⟨⟨C,B,hC,hB,?_,?_⟩,?_⟩
   ·simp_all
   ·cases io<;>rfl
   ·rw[←hl];exact k4 Ml _ lo lg
  ·cases h
theorem Fg {h}:∀{ls ids cs bs},gI h ls ids=some (cs,bs)→bs.length=ls.length
 |[],[],_,_,e=>by cases e;rfl
 |(io,l)::ls,id::ids,cs,bs,e=>by
  unfold gI at e;split at e
  ·rename_i cells rest vl h1 h2;obtain⟨_,e⟩:=vQ e;cases e;simp[Fg h2]
  ·cases e
theorem vAn {h}{s:AX}{a cs bs}(e:s.get h a=some (cs,bs)):bs.length=s.nb:=by
 unfold AX.get at e;split at e
 ·cases e;rfl
 ·obtain⟨_,e⟩:=vQ e;cases e;rfl
 ·rw[Fg e];rfl
 ·obtain⟨_,e⟩:=vQ e;rw[Fg e];rfl
 ·split at e
  ·rw[Fg e];simp[Af,AX.nb]
  ·cases e
 ·cases e
theorem PF {h}:∀{n id ids},E5 h n id=some ids→ids.head? =some id∧ids.length=n
 |1,_,_,e=>by cases e;simp
 |n+2,id,ids,e=>by
  unfold E5 at e;split at e
  ·split at e
   ·split at e
    ·rename_i l hl;cases e;exact⟨rfl,by simp[(PF hl).2]⟩
    ·cases e
   ·cases e
  ·cases e
theorem yX5 {M}(ok:Ok M){aj}(ho:lk M aj){s:AX}{a v cs bs}(hv:zP M a v)(h:s.get M.h a=some (cs,bs))(hf:Am aj bs):
  cs.length=s.cells.length∧PE M aj bs (fun aM=>s.boxes aM) cs∧∀Ml aM n,og M aj Ml→zK (oh M aj Ml.κ) cs aM→(∀i b,bs[i]? =some b→Ml.κ (n+i)=M.κ b.2)→zP Ml (s.mk n aM) v:=by
 unfold AX.get at h;split at h
 ·cases h;refine⟨rfl,fun Ml aM lo ht=>trivial,fun Ml aM n lo ht _=>?_⟩
  match aM,ht with
  |[c'],ht=>exact ht.1 v Ml lo rfl hv
 ·rename_i l xs;obtain⟨hl,h'⟩:=vQ h;cases h';have hl:cs.length=l.length:=Nat.eq_of_beq_eq_true hl;obtain⟨vs,rfl,hx⟩:=hv;exact⟨by simp[AX.cells,hl],fun Ml aM lo ht=>trivial,fun Ml aM n lo ht _=>⟨vs,rfl,Ff lo ht hx⟩⟩
 ·rename_i io l id;obtain⟨k1,k2,k3,k4⟩:=JF ok ho h hf;refine⟨by rw[k1];simp[AX.cells],k4,fun Ml aM n lo ht hκ=>?_⟩;obtain⟨C,B,hC,hB,e⟩:=hv;exact⟨C,B,by have:=hκ 0 (io,id) (by rw[k2];rfl);simp_all,hB,e⟩
 ·rename_i f bp g ids;obtain⟨hg,h'⟩:=vQ h;have Pf:f=g:=Nat.eq_of_beq_eq_true hg;subst Pf;obtain⟨k1,k2,k3,k4⟩:=JF ok ho h' hf;refine⟨by rw[k1];rfl,k4,fun Ml aM n lo ht hκ=>?_⟩;obtain⟨cv,rfl,hc⟩:=hv;refine⟨cv,rfl,?_⟩;have l2:=hc.length;refine zK.of_get (by simp_all) fun i h1 h2=>?_
  have hi:i<ids.length:=by omega
  obtain⟨C,B,q1,q2,q3⟩:=hc.get i hi h2;have hb:bs[i]? =some ((bp.map (·.1))[i]'(by simp at h1⊢;omega),ids[i]):=by
   grind
  grind
 ·rename_i ls id;split at h
  ·rename_i ids jq;obtain⟨k1,k2,k3,k4⟩:=JF ok ho h hf;refine⟨by rw[k1];simp[AX.cells,Af,List.flatMap_map],k4,fun Ml aM n lo ht hκ=>?_⟩;obtain⟨C,B,hC,hB,e⟩:=hv;have hb:bs[0]? =some (true,id):=by
    obtain⟨h1,h2⟩:=PF jq;rw[k2];cases ids with
    |nil=>cases h1
    |cons i ids=>
     cases h1;cases ls with
     |nil=>cases k3
     |cons l ls=>rfl
   exact⟨C,B,by grind,hB,e⟩
  ·cases h
 ·cases h
theorem yBq {M}(ok:Ok M){aj}(ho:lk M aj):∀{l as vs cs bs},zK (zP M) as vs→ix M.h l as=some (cs,bs)→Am aj bs→
  cs.length=(l.flatMap AX.cells).length∧(∀n,PE M aj bs (fun aM=>(vm l aM n).2) cs)∧
   ∀Ml aM n,og M aj Ml→zK (oh M aj Ml.κ) cs aM→(∀i b,bs[i]? =some b→Ml.κ (n+i)=M.κ b.2)→zK (zP Ml) (vm l aM n).1 vs
 |[],[],[],cs,bs,_,h,_=>by cases h;exact⟨rfl,fun _ _ _ _ _=>trivial,fun _ _ _ _ _ _=>trivial⟩
 |s::l,a::as,v::vs,cs,bs,hv,h,hf=>by
  unfold ix at h;split at h
  ·rename_i ky bs1 cs2 bs2 h1 h2;cases h;have hf1:Am aj bs1:=fun b hb=>hf b (by grind)
   have hf2:Am aj bs2:=fun b hb=>hf b (by grind)
   obtain⟨k1,k2,k3⟩:=yX5 ok ho hv.1 h1 hf1;obtain⟨k4,k5,k6⟩:=yBq ok ho hv.2 h2 hf2;have cut:∀{κ:Nat→Option zZ} {aM:List zV},zK (oh M aj κ) (ky++cs2) aM→zK (oh M aj κ) ky (aM.take s.cells.length)∧zK (oh M aj κ) cs2 (aM.drop s.cells.length):=by
    intro κ aM ht;have lY:=zK.take s.cells.length ht;have lg:=zK.drop s.cells.length ht;simp_all
   refine⟨by simp_all,fun n Ml aM lo ht=>?_,fun Ml aM n lo ht hκ=>?_⟩
   ·obtain⟨lY,lg⟩:=cut ht;exact(k2 Ml _ lo lY).append (k5 _ Ml _ lo lg)
   ·obtain⟨lY,lg⟩:=cut ht;have hlen:=(k2 Ml _ lo lY).length;refine⟨k3 Ml _ n lo lY fun i b hb=>hκ i b ?_,k6 Ml _ _ lo lg fun i b hb=>?_⟩
    ·grind
    ·have:=hκ (bs1.length+i) b (by grind);grind
  ·cases h
def κX (M : zI) (bs : List (Bool × Nat)) (rows : List Nat) : Nat → Option zZ := fun n => bif Nat.ble vT n then (match rows[n-vT]? with
  |some id=>(M.κ id).map fun C=>{C with ver:=0}
  |none=>none)
 else (match bs[n]? with
  |some b=>M.κ b.2
  |none=>none)
theorem vn:∀{bs} {i id:Nat},bs[i]? =some (true,id)→id∈vB bs
 |(true,a)::bs,0,id,h=>by cases h;exact List.mem_cons_self ..
 |(true,a)::bs,i+1,id,h=>List.mem_cons_of_mem _ (vn (bs:=bs) (i:=i) h)
 |(false,a)::bs,i+1,id,h=>vn (bs:=bs) (i:=i) h
theorem PG:∀{bs} {i j id:Nat},(vB bs).Nodup→bs[i]? =some (true,id)→bs[j]? =some (true,id)→i=j
 |(true,a)::bs,0,0,id,_,_,_=>rfl
 |(true,a)::bs,0,j+1,id,hn,h,k=>by
  cases h;exact absurd (vn (bs:=bs) (i:=j) k) (List.nodup_cons.1 hn).1
 |(true,a)::bs,i+1,0,id,hn,h,k=>by
  cases k;exact absurd (vn (bs:=bs) (i:=i) h) (List.nodup_cons.1 hn).1
 |(true,a)::bs,i+1,j+1,id,hn,h,k=>by rw[PG (bs:=bs) (List.nodup_cons.1 hn).2 h k]
 |(false,a)::bs,i+1,j+1,id,hn,h,k=>by rw[PG (bs:=bs) hn h k]
theorem vNw {M}(ok:Ok M){l as vs cs bs}{d:XD l}(hv:zK (zP M) as vs)(hg:ix M.h l as=some (cs,bs))(hd:mM M.h (l.flatMap AX.cells) cs=some d)
  (di:(vB bs++wL (l.flatMap AX.cells) cs).Nodup) (nR:∀id∈E8 (l.flatMap AX.cells) cs,id∉vB bs++wL (l.flatMap AX.cells) cs) (hro:∀id∈JE bs,id∉vB bs++wL (l.flatMap AX.cells) cs) (hlen:bs.length≤vT) (pM:n9 ((l.flatMap AX.cells).map XC.lnk) (bs.map (·.2)) cs=true) (ho:lk M (vB bs++wL (l.flatMap AX.cells) cs)):
  ∃Ml:zI,og M (vB bs++wL (l.flatMap AX.cells) cs) Ml∧Ml.h=(mN l d).2∧Ok Ml∧(∀b,qJ Ml b→iS M (vB bs++wL (l.flatMap AX.cells) cs) b)∧zK (zP Ml) (mN l d).1 vs∧Ml.κ=κX M bs (wL (l.flatMap AX.cells) cs):=by
 generalize fG:vB bs++wL (l.flatMap AX.cells) cs=aj at*
 have sB:Am aj bs:=by
  intro b hb;obtain⟨i,hi,rfl⟩:=List.getElem_of_mem hb;have Eg:bs[i]? =some bs[i]:=List.getElem?_eq_getElem hi;refine⟨fun e=>?_,fun e=>?_⟩
  ·rw[←fG];have:bs[i]? =some (true,bs[i].2):=by rw[Eg,←e]
   exact List.mem_append_left _ (vn this)
  ·apply hro;clear hg hd di nR hro hlen ho fG hv pM
   induction bs generalizing i with
   |nil=>exact absurd hi (Nat.not_lt_zero i)
   |cons c bs ih=>
    obtain⟨io,a⟩:=c;cases i with
    |zero=>cases io<;>first|exact List.mem_cons_self .. |cases e
    |succ i=>cases io<;>first|exact List.mem_cons_of_mem _ (by grind)|exact ih i (by simpa using hi) (List.getElem_mem _) (List.getElem?_eq_getElem _) e
 let κ:=κX M bs (wL (l.flatMap AX.cells) cs);obtain⟨k1,k2,k3⟩:=Al ok ho (κ:=κ) (n:=vT) (ids:=bs.map (·.2)) hd pM nR;have ht : zK (oh M aj κ) cs (fF (l.flatMap AX.cells) d vT).1 := k3 (fun i id C hi hC=>by
  show κX M bs _ (vT+i)=_;unfold κX;rw[Nat.ble_eq_true_of_le (Nat.le_add_right _ _),show vT+i-vT=i by omega,hi];simp[hC]) fun j id hj=>by
  rw[List.getElem?_map] at hj;obtain⟨b,hb,rfl⟩:=Option.map_eq_some_iff.1 hj;have hi:j<bs.length:=by grind
  show κX M bs _ j=_;unfold κX;have:Nat.ble vT j=false:=by
   cases h:Nat.ble vT j with
   |false=>rfl
   |true=>have:=Nat.le_of_ble_eq_true h;omega
  rw[this,hb];rfl
 obtain⟨a1,a2,a3⟩:=yBq ok ho hv hg sB;let Ml:zI:={κ:=κ,F:=fun b=>b<M.H.size∧¬iS M aj b,G:=M.G,h:=(mN l d).2,H:=M.H};have lo:og M aj Ml:=⟨rfl,rfl,rfl⟩;have vp:=a2 0 Ml _ lo ht;have hκbox:∀i b,bs[i]? =some b→Ml.κ (0+i)=M.κ b.2:=fun i b hb=>by
  have hi:i<bs.length:=by grind
  show κX M bs _ (0+i)=_;unfold κX;have:Nat.ble vT (0+i)=false:=by
   cases h:Nat.ble vT (0+i) with
   |false=>rfl
   |true=>have:=Nat.le_of_ble_eq_true h;omega
  rw[this,Nat.zero_add,hb];rfl
 have jy:∀id o,Ml.h id=some o→∃jd C,Ml.κ id=some C∧yP Ml o C∧(o.owned=true→jd∈aj∧∃D,M.κ jd=some D∧D.fp=C.fp)∧
   ((Nat.ble vT id=true∧(wL (l.flatMap AX.cells) cs)[id-vT]? =some jd)∨(Nat.ble vT id=false∧∃io,bs[id]? =some (io,jd)∧o.owned=io)):=by
  intro id o h;have h:Fa (vm l (fF (l.flatMap AX.cells) d vT).1 0).2 (fF (l.flatMap AX.cells) d vT).2 id=some o:=h;unfold Fa at h;cases hb:Nat.ble vT id with
  |true=>
   rw[hb] at h;have h:(fF (l.flatMap AX.cells) d vT).2[id-vT]? =some o:=h;have hi:=(List.getElem?_eq_some_iff.1 h).1;have hj:(wL (l.flatMap AX.cells) cs)[id-vT]? =some ((wL (l.flatMap AX.cells) cs)[id-vT]'(by omega)):=by simp
   obtain⟨C,hR⟩:=k2 _ _ _ hj h;refine⟨_,{C with ver:=0},?_,hR.rep Ml rfl rfl,fun _=>⟨?_,C,hR.κ,rfl⟩,.inl ⟨rfl,hj⟩⟩
   ·show κX M bs _ id=_;unfold κX;rw[hb,hj];simp[hR.κ]
   ·rw[←fG];exact by simp
  |false=>
   rw[hb] at h;have hi:=(List.getElem?_eq_some_iff.1 h).1;have PH:id<bs.length:=by rw[vp.length];exact hi
   have hq:=vp.get id PH hi;rw[List.getElem?_eq_getElem hi] at h;cases h;obtain⟨C,B,q1,q2,q3,q4⟩:=hq;have Eg:bs[id]? =some bs[id]:=List.getElem?_eq_getElem PH;refine⟨bs[id].2,C,?_,q3,fun e=>⟨(sB _ (List.getElem_mem PH)).1 (by rw[←q4];exact e),C,q1,rfl⟩,by grind⟩;have:=hκbox id _ Eg;rw[Nat.zero_add] at this;rw[this];exact q1
 have aJ:∀b,qJ Ml b→iS M aj b:=fun b ⟨id,o,C,h1,h2,h3,h4⟩=>by
  obtain⟨jd,C',q1,_,q3,_⟩:=jy id o h1;rw[h3] at q1;cases q1;obtain⟨p1,D,p2,p3⟩:=q3 h2;exact⟨jd,p1,D,p2,by rw[p3];exact h4⟩
 refine⟨Ml,lo,rfl,⟨fun id o h=>?_,fun id h=>?_,fun i j oi oj Ci Cj b jb h1 h2 h3 h4 h5 h6 h7 h8=>?_,fun b hb=>⟨fun hf=>hf.2 (aJ b hb),(ok.own b ((aJ b hb).own ho)).2⟩,fun b hb=>pL ok ho (ok.GF b hb),fun b hb=>hb.1⟩,aJ,a3 Ml _ 0 lo ht hκbox,rfl⟩
 ·obtain⟨jd,C,q1,q2,_⟩:=jy id o h;exact⟨C,q1,q2⟩
 ·have h:Fa (vm l (fF (l.flatMap AX.cells) d vT).1 0).2 (fF (l.flatMap AX.cells) d vT).2 id=none:=h;unfold Fa at h;show κX M bs _ id=none;unfold κX;cases hb:Nat.ble vT id with
  |true=>
   rw[hb] at h;have h:(fF (l.flatMap AX.cells) d vT).2[id-vT]? =none:=h;rw[List.getElem?_eq_none_iff,←k1] at h;rw[List.getElem?_eq_none h];rfl
  |false=>
   rw[hb] at h;have h:(vm l (fF (l.flatMap AX.cells) d vT).1 0).2[id]? =none:=h;rw[List.getElem?_eq_none_iff,←vp.length] at h;rw[List.getElem?_eq_none h];rfl
 ·obtain⟨ji,Ci',p1,_,p3,p4⟩:=jy i oi h1;obtain⟨jj,Cj',q1,_,q3,q4⟩:=jy j oj h2;rw[h5] at p1;cases p1;rw[h6] at q1;cases q1;obtain⟨p5,Di,p6,p7⟩:=p3 h3;obtain⟨q5,Dj,q6,q7⟩:=q3 h4;obtain⟨oi',r1,r2⟩:=ho ji p5;obtain⟨oj',r3,r4⟩:=ho jj q5;refine ok.disj ji jj oi' oj' Di Dj b (fun e=>?_) r1 r3 r2 r4 p6 q6 (by rw[p7];exact h7) (by rw[q7];exact h8);subst e;rw[←fG] at di;obtain⟨n1,n2,n3⟩:=List.nodup_append.1 di;rcases p4 with⟨p8,p9⟩|⟨p8,io,p9,pN⟩<;>rcases q4 with⟨q8,q9⟩|⟨q8,io',q9,JG⟩
  ·have:=(List.getElem?_inj (by grind) n2).1 (p9.trans q9.symm);have e1:=Nat.le_of_ble_eq_true p8;have e2:=Nat.le_of_ble_eq_true q8;exact jb (by omega)
  ·rw[h4] at JG;subst JG;exact n3 _ (vn q9) _ (List.mem_of_getElem? p9) rfl
  ·rw[h3] at pN;subst pN;exact n3 _ (vn p9) _ (List.mem_of_getElem? q9) rfl
  ·rw[h3] at pN;rw[h4] at JG;subst pN;subst JG;exact jb (PG n1 p9 q9)
theorem sC {n}:∀{ids h},qF h (mO ids) n=if n∈ids then some .gone else h n
 |[],_=>by rfl
 |id::ids,h=>by
  show qF (qX h id .gone) (mO ids) n=_;rw[sC (ids:=ids)];by_cases e:n=id
  ·subst e;simp[yE]
  ·rw[yJ _ _ e];simp[e]
def zI.overX (M L:zI)(aj:List Nat):zI:={κ:=M.κ,F:=fun b=>M.F b∨L.G b,G:=L.G,h:=qF M.h (mO aj),H:=L.H}
theorem zI.overX_ok {M Ml L aj}(ok:Ok M)(fY:Ok L)(lo:og M aj Ml)(ho:lk M aj)(hand:∀b,qJ Ml b→iS M aj b)(g:gH Ml L):
  Ok (M.overX L aj)∧yS M (M.overX L aj)∧(∀b,qJ (M.overX L aj) b→qJ M b∧¬iS M aj b):=by
 have cF:∀b,b<M.H.size→¬iS M aj b→L.H[b]? =M.H[b]? :=fun b hb hn=>by rw[g.same b (by rw[lo.F];simp_all),lo.H]
 have df:M.H.size≤L.H.size:=by have:=g.size;rw[lo.H] at this;exact this
 have hG:∀b,L.G b→b<M.H.size→M.G b∨iS M aj b:=fun b hb hs=>by
  rcases g.Gb b hb (by rw[lo.H];exact hs) with h|h
  ·rw[lo.G] at h;simp_all
  simp_all
 have hsF:∀b,M.F b→L.H[b]? =M.H[b]? :=fun b h=>cF b (pL ok ho h).1 (pL ok ho h).2
 have x:yF M (M.overX L aj):=⟨fun id C h=>⟨C,h,C.le_refl⟩,fun b h=>.inl h,fun b h=>g.G b (by rw[lo.G];exact h),fun b h=>hsF b h,fun b h=>hsF b (ok.GF b h),fun b h=>by
  have:=g.bsz b (by rw[lo.H];exact h);rw[lo.H] at this;exact this⟩
 have jy:∀id o,(M.overX L aj).h id=some o→o.owned=true→id∉aj∧M.h id=some o:=fun id o h fW=>by
  have h:qF M.h (mO aj) id=some o:=h;rw[sC] at h;by_cases hm:id∈aj
  ·rw[if_pos hm] at h;cases h;cases fW
  simp_all
 have PI:∀id o C,id∉aj→M.h id=some o→o.owned=true→M.κ id=some C→∀b∈C.fp,¬iS M aj b:=fun id o C hm h fW hC b hb ⟨jd,hj,D,hD,Pk⟩=>by
  obtain⟨q,q1,q2⟩:=ho jd hj;exact ok.disj id jd o q C D b (by grind) h q1 fW q2 hC hD hb Pk
 have aJ:∀b,qJ (M.overX L aj) b→qJ M b∧¬iS M aj b:=fun b ⟨id,o,C,h1,h2,h3,h4⟩=>by
  obtain⟨k1,k2⟩:=jy id o h1 h2;exact⟨⟨id,o,C,k2,h2,h3,h4⟩,PI id o C k1 k2 h2 h3 b h4⟩
 refine⟨⟨fun id o h=>?_,fun id h=>?_,fun i j oi oj Ci Cj b jb h1 h2 h3 h4 h5 h6 h7 h8=>?_,fun b h=>⟨fun hf=>?_,?_⟩,fun b h=>.inr h,fun b h=>?_⟩,⟨x,df,fun b hb hn=>cF b hb fun hh=>hn (hh.own ho),by grind,fun b h hs=>?_,fun b h hs=>?_⟩,aJ⟩
 ·have h:qF M.h (mO aj) id=some o:=h;rw[sC] at h;by_cases hm:id∈aj
  ·rw[if_pos hm] at h;cases h;obtain⟨q,q1,q2⟩:=ho id hm;obtain⟨C,hC,_⟩:=ok.obj id q q1;exact⟨C,hC,trivial⟩
  ·rw[if_neg hm] at h;obtain⟨C,hC,hO⟩:=ok.obj id o h;exact⟨C,hC,hO.ext x fun fW b hb=>cF b (ok.own b ⟨id,o,C,h,fW,hC,hb⟩).2 (by grind)⟩
 ·have h:qF M.h (mO aj) id=none:=h;rw[sC] at h;by_cases hm:id∈aj
  ·simp_all
  ·rw[if_neg hm] at h;exact ok.non id h
 ·exact ok.disj i j oi oj Ci Cj b jb (jy i oi h1 h3).2 (by grind) h3 h4 h5 h6 h7 h8
 ·obtain⟨k1,k2⟩:=aJ b h;have:=ok.own b k1;rcases hf with hf|hf
  ·simp_all
  ·rcases hG b hf this.2 with h|h
   ·exact this.1 (ok.GF b h)
   simp_all
 ·have h1:=(ok.own b (aJ b h).1).2;show b<L.H.size;omega
 ·show b<L.H.size;rcases h with h|h
  ·have:=ok.Flt b h;omega
  ·exact fY.Flt b (fY.GF b h)
 ·rcases hG b h hs with h|h
  ·simp_all
  ·exact .inr (h.own ho)
 ·rcases h with h|h
  ·simp_all
  ·rcases hG b h hs with h|h
   ·exact .inl (ok.GF b h)
   ·exact .inr (h.own ho)
def zZ.bare (C:zZ):zZ:={C with ver:=C.ver+1,rows:=[]}
def zI.revive (M:zI)(id:Nat)(C:zZ)(cs:List zV):zI:={M with κ:=κset M.κ id C.bare,h:=qX M.h id (.box true cs)}
theorem zI.revive_ok {M}(ok:Ok M){id C B vals e cs}(hC:M.κ id=some C)(hB:C.blk=some B)(hH:M.H[B]? =some (.cells vals e (0,0)))(hc:zK (zQ M) cs vals.toList)
  (h1:¬qJ M B) (h2:¬M.F B):Ok (M.revive id C cs)∧yF M (M.revive id C cs)∧(∀b,qJ (M.revive id C cs) b→qJ M b∨b=B):=by
 have hκ:(M.revive id C cs).κ id=some C.bare:=κset_same _ _ _;have x:yF M (M.revive id C cs):=⟨fun jd D h=>by
  by_cases e':jd=id
  ·subst e';rw[hC] at h;cases h;exact⟨_,hκ,rfl,rfl,rfl,Nat.le_succ _,fun h=>absurd h (by simp[zZ.bare])⟩
  ·exact⟨D,by show κset M.κ id _ jd=_;rw[κset_ne _ _ e'];exact h,D.le_refl⟩,fun _ h=>h,fun _ h=>h,fun _ _=>rfl,fun _ _=>rfl,fun _ _=>rfl⟩
 have nF:C.bare.fp=[B]:=by simp[zZ.fp,zZ.bare,hB]
 have uN:(M.revive id C cs).h id=some (.box true cs):=yE _ _ _;refine⟨Ok.build ok x (fun jd=>jd=id) (fun jd h=>yJ _ _ h) (fun jd h=>κset_ne _ _ h) (fun _ _ _ _ _ _ _ _ _=>rfl) (fun jd o' D k1 k2 k3 k4 b bD=>(ok.own b ⟨jd,o',D,k2,k3,k4,bD⟩).1) (Nat.le_refl _)
  (fun jd o' e' h=>?_) (fun jd e' h=>?_) (fun jd o' D b e' k1 k2 k3 k4=>?_) ok.GF ok.Flt,x,fun b bD=>?_⟩
 ·subst e';rw[uN] at h;cases h;exact⟨_,hκ,B,vals,e,hB,rfl,hH,hc.mono fun _ _ h=>h.ext x,by simp⟩
 ·simp_all
 ·subst e';rw[hκ] at k3;cases k3;rw[nF,List.mem_singleton] at k4;subst k4;refine⟨fun j oj Cj hj q1 q2 q3 q4=>h1 ⟨j,oj,Cj,?_,q2,?_,q4⟩,h2,(Array.getElem?_eq_some_iff.1 hH).1⟩
  ·rw[←q1];exact(yJ _ _ hj).symm
  ·rw[←q3];exact(κset_ne _ _ hj).symm
 ·obtain⟨jd,o',D,k1,k2,k3,k4⟩:=bD;by_cases e':jd=id
  ·simp_all
  ·exact .inl ⟨jd,o',D,by rw[←k1];exact(yJ _ _ e').symm,k2,by rw[←k3];exact(κset_ne _ _ e').symm,k4⟩
structure yO6 (M:zI) (id:Nat) (cs:List zV) (B:Nat):Prop where
 at':∃C,M.κ id=some C∧C.blk=some B
 rep:∃vals e,M.H[B]? =some (.cells vals e (0,0))∧zK (zQ M) cs vals.toList
 own:¬qJ M B
 F:¬M.F B
def ma (R:Nat→List zV→Nat→Prop):List Nat→List (List zV)→List Nat→Prop
 |[],[],[]=>True
 |a::l,b::m,c::n=>R a b c∧ma R l m n
 |_,_,_=>False
theorem ma.mono {R S}:∀{l m n},(∀a b c,c∈n→R a b c→S a b c)→ma R l m n→ma S l m n
 |[],[],[],_,_=>trivial
 |_::_,_::_,_::_,h,k=>⟨h _ _ _ (by simp) k.1,ma.mono (by grind) k.2⟩
theorem yA6:∀{ids css Bs M},Ok M→ma (yO6 M) ids css Bs→Bs.Nodup→
  ∃M':zI,M'.H=M.H∧M'.G=M.G∧M'.F=M.F∧M'.h=qF M.h (Aj ids css)∧Ok M'∧yF M M'∧(∀b,qJ M' b→qJ M b∨b∈Bs)
 |[],[],[],M,ok,_,_=>⟨M,rfl,rfl,rfl,rfl,ok,.refl M,by simp⟩
 |id::ids,cs::css,B::Bs,M,ok,h,hn=>by
  obtain⟨C,hC,hB⟩:=h.1.at';obtain⟨vals,e,hH,hc⟩:=h.1.rep;obtain⟨k1,k2,k3⟩:=zI.revive_ok ok hC hB hH hc h.1.own h.1.F;obtain⟨n1,n2⟩:=List.nodup_cons.1 hn;obtain ⟨M', a1, a2, a3, a4, a5, a6, a7⟩ := yA6 (M := M.revive id C cs) k1 (ma.mono (fun a b c hcB hb=>by
   refine⟨?_,?_,fun ho=>?_,hb.F⟩
   ·obtain⟨D,q1,q2⟩:=hb.at';obtain⟨D',q3,le⟩:=k2.κ _ _ q1;exact⟨D',q3,le.blk.trans q2⟩
   ·obtain⟨vals,e,q1,q2⟩:=hb.rep;exact⟨vals,e,q1,q2.mono fun _ _ h=>h.ext k2⟩
   ·rcases k3 _ ho with h|h
    ·exact hb.own h
    simp_all) h.2) n2
  exact⟨M',a1,a2,a3,a4,a5,yF.trans (M:=M) (M':=M.revive id C cs) (Nat.le_refl _) k2 a6,by grind⟩
theorem qVc:∀{ids css h h'},ids.length=css.length→(∀n,n∉ids→h n=h' n)→qF h (Aj ids css)=qF h' (Aj ids css)
 |[],[],h,h',_,e=>funext fun n=>e n (by simp)
 |id::ids,cs::css,h,h',hl,e=>qVc (ids:=ids) (css:=css) (by simp_all) fun n hn=>by
   by_cases k:n=id
   ·subst k;rw[yE,yE]
   ·rw[yJ _ _ k,yJ _ _ k];simp_all
theorem vP6 {h0 s a a' v u M}(ok:Ok M)(hf:wF h0 M.h)(hv:zP M a v)(h:sA h0 s a=some (a',u)):
  ∃L:zI,L.H=M.H∧L.h=qF M.h u∧Ok L∧yS M L∧zP L a' v∧wF h0 L.h:=by
 unfold sA at h;split at h
 ·rename_i p x;split at h
  ·rename_i y u1 e;cases h;obtain⟨L,h1,h2,h3,h4,h5,h6⟩:=ss (cs:=[x]) (vs:=[v]) ok hf ⟨hv,trivial⟩ e;exact⟨L,h1,h2,h3,h4,h5.1,h6⟩
  ·cases h
 ·split at h
  ·rename_i ys u1 e;cases h;obtain⟨vs,rfl,hx⟩:=hv;obtain⟨L,h1,h2,h3,h4,h5,h6⟩:=ss ok hf hx e;exact⟨L,h1,h2,h3,h4,⟨vs,rfl,h5⟩,h6⟩
  ·cases h
 ·cases h;exact⟨M,rfl,rfl,ok,.refl M,hv,hf⟩
theorem yE9 {h0}:∀{l as dV vs u M},Ok M→wF h0 M.h→zK (zP M) as vs→oc h0 l as=some (dV,u)→
  ∃L:zI,L.H=M.H∧L.h=qF M.h u∧Ok L∧yS M L∧zK (zP L) dV vs∧wF h0 L.h
 |s::l,a::as,dV,v::vs,u,M,ok,hf,hv,h=>by
  unfold oc at h;split at h
  ·rename_i a1 u1 Pn nH e1 e2;cases h;obtain⟨M1,h1,h2,h3,h4,h5,h6⟩:=vP6 ok hf hv.1 e1;obtain⟨M2,k1,k2,k3,k4,k5,k6⟩:=yE9 h3 h6 (su.ext h4.ext hv.2) e2;exact⟨M2,k1.trans h1,by rw[k2,h2,iO],k3,h4.trans k4,⟨h5.ext k4.ext,k5⟩,k6⟩
  ·cases h
 |[],as,dV,vs,u,M,ok,hf,hv,h=>by
  cases as<;>cases h<;>exact⟨M,rfl,rfl,ok,.refl M,hv,hf⟩
 |s::l,[],dV,vs,u,M,ok,hf,hv,h=>by cases h;exact⟨M,rfl,rfl,ok,.refl M,hv,hf⟩
def jz (M L:zI)(id jd:Nat):Prop:=∃C D B,M.κ id=some C∧C.blk=some B∧L.κ jd=some D∧D.blk=some B
theorem PJ {M L}:∀{ls is js out} {us:List Value} {cs bs},gI M.h ls is=some (cs,bs)→Fc ls js=some out→
  zK (fun id u=>∃C B,M.κ id=some C∧C.blk=some B∧u=.pointer (some ⟨B,0,none⟩)) is us→zK (fun id u=>∃C B,L.κ id=some C∧C.blk=some B∧u=.pointer (some ⟨B,0,none⟩)) js us→zK (jz M L) (vB bs) out
 |[],[],[],out,us,cs,bs,h,k,_,_=>by cases h;cases k;exact trivial
 |(io,l)::ls,i::is,j::js,out,u::us,cs,bs,h,k,p,q=>by
  unfold gI at h;split at h
  ·rename_i cells rest vl h1 h2;obtain⟨_,h⟩:=vQ h;cases h;unfold Fc at k;split at k
   ·rename_i o ho;cases k;have ih:=PJ h2 ho p.2 q.2;cases io with
    |false=>exact ih
    |true=>
     obtain⟨C,B,k1,k2,k3⟩:=p.1;obtain⟨D,B',k4,k5,k6⟩:=q.1;rw[k3] at k6;cases k6;exact⟨⟨C,D,B,k1,k2,k4,k5⟩,ih⟩
   ·cases k
  ·cases h
theorem qWe {M L}:∀{bs n},(∀q∈bs,q.1=true)→(∀i q,bs[i]? =some q→jz M L q.2 (n+i))→zK (jz M L) (vB bs) (jx n bs.length)
 |[],n,_,_=>trivial
 |(true,id)::bs,n,h,k=>⟨k 0 _ rfl,qWe (by grind) fun i q hq=>by
   have:=k (i+1) q hq;grind⟩
 |(false,id)::bs,n,h,k=>by simp_all
theorem yLu {h}:∀{ls ids cs bs},gI h ls ids=some (cs,bs)→bs.map (·.1)=ls.map (·.1)
 |[],[],_,_,e=>by cases e;rfl
 |(io,l)::ls,id::ids,cs,bs,e=>by
  unfold gI at e;split at e
  ·rename_i cells rest vl h1 h2;obtain⟨_,e⟩:=vQ e;cases e;simp[yLu h2]
  ·cases e
theorem yXz {M L}{s:AX}{a b v cs bs out}(h:s.get M.h a=some (cs,bs)){n}(k:s.io n b=some out)(p:zP M a v)(q:s.looks=true→zP L b v)(hk:s.isChn=true→∀i q,bs[i]? =some q→jz M L q.2 (n+i)):zK (jz M L) (vB bs) out:=by
 unfold AX.get at h;split at h
 ·cases h;cases k;exact trivial
 ·obtain⟨_,h'⟩:=vQ h;cases h';cases k;exact trivial
 ·unfold AX.io at k;split at k
  ·rename_i e;cases e
  ·rename_i e;cases e
  ·rename_i io' l' jd e;cases e;exact PJ (us:=[v]) h k ⟨p,trivial⟩ ⟨q rfl,trivial⟩
  all_goals simp_all
 ·obtain⟨hg,h'⟩:=vQ h;unfold AX.io at k;split at k
  ·simp_all
  ·simp_all
  ·simp_all
  ·rename_i f' aab g' js e;cases e;obtain⟨cv,rfl,hc⟩:=p;obtain⟨cv',e',jh⟩:=q rfl;cases e';exact PJ h' k hc jh
  all_goals simp_all
 ·rename_i ls id;split at h
  ·cases k;have h1:=Fg h;have h2:ls.length=bs.length:=by rw[h1];simp[Af]
   rw[h2];exact qWe (fun q hq=>by
    have:q.1∈bs.map (·.1):=by grind
    rw[yLu h] at this;exact(by simpa[Af] using this:_∧_).2) (hk rfl)
  ·cases h
 ·cases h
theorem yRu {M L}:∀{l as vs t n cs bs out m},ix M.h l as=some (cs,bs)→JD l t n m=some out→zK (zP M) as vs→(∀i h s,l[i]? =some s→s.looks=true→zP L (t (n+i)) vs[i])→(l.any AX.isChn=true→∀i q,bs[i]? =some q→jz M L q.2 (m+i))→
  zK (jz M L) (vB bs) out
 |[],[],[],t,n,cs,bs,out,m,h,k,_,_,_=>by cases h;cases k;exact trivial
 |s::l,a::as,v::vs,t,n,cs,bs,out,m,h,k,p,q,hk=>by
  unfold ix at h;split at h
  ·rename_i c1 b1 c2 b2 h1 h2;cases h;unfold JD at k;split at k
   ·rename_i o1 o2 k1 k2;cases k;have e:∀b1 b2:List (Bool×Nat),vB (b1++b2)=vB b1++vB b2:=fun b1 b2=>by
     induction b1 with
     |nil=>rfl
     |cons x b1 ih=>obtain⟨io,y⟩:=x;cases io<;>simp[vB,ih]
    rw[e];have hnb:=vAn h1;refine(yXz h1 k1 p.1 (q 0 (by simp) s rfl) (by grind)).append (yRu h2 k2 p.2 (fun i hi s' hs hl=>?_) fun hc i q hq=>?_)
    rotate_left
    ·have:=hk (by simp_all) (b1.length+i) q (by grind);grind
    have:=q (i+1) (by simp_all) s' (by simp_all) hl;grind
   ·cases k
  ·cases h
 |[],_::_,_,_,_,_,_,_,_,h,_,_,_,_=>by cases h
theorem yQ2 {L}(fY:Ok L):∀{os ids bs},Ah L.h os ids=some bs→bs.length=os.flatten.length∧ids.length=os.length∧
  ∃us:List Value,zK (zQ L) bs us∧∀{M cs},M.H=L.H→zK (zQ M) cs us→ma (fun id cs B=>(∃cells,L.h id=some (.box true cells))∧(∃C,L.κ id=some C∧C.blk=some B∧C.rows=[])∧∃vals e,M.H[B]? =some (.cells vals e (0,0))∧zK (zQ M) cs vals.toList) ids (sy os cs) (ids.map fun id=>((L.κ id).bind zZ.blk).getD 0)
 |[],[],bs,h=>by cases h;exact⟨rfl,rfl,[],trivial,fun _ _=>trivial⟩
 |o::os,n::ns,bs,h=>by
  unfold Ah at h;split at h
  ·rename_i cells rest h1 h2;obtain⟨hl,h⟩:=vQ h;cases h;obtain⟨C,hC,B,vals,e,q1,q2,q3,q4,_⟩:=fY.obj n _ h1;obtain⟨k1,k2,us,k3,k4⟩:=yQ2 fY h2;refine⟨by simp_all,by simp[k2],vals.toList++us,q4.append k3,fun{M cs} hH hc=>⟨⟨by grind,⟨C,hC,?_,q2⟩,vals,e,?_,?_⟩,?_⟩⟩
   ·simp_all
   ·simp_all
   ·have h1:=zK.take o.length hc;have Pl:=q4.length;simp_all
   ·have h1:=zK.drop o.length hc;have Pl:=q4.length;simp_all
  ·cases h
theorem vQu {h0 r c d}(h:mJ h0 r c=some d):∀id∈vM [r] [c],∀own cells,h0 id≠some (.box own cells):=by
  unfold mJ at h;split at h;all_goals (try (intro id ah;simp[vM] at ah;done))
  all_goals first
    |(done)
    | (intro zt ah own cells hb
       have:=List.mem_singleton.1 ah;simp_all)
    |(cases h)
theorem yCb {L}:∀{l cs d},iu L l cs=some d→∀id∈vM l cs,∀own cells,L id≠some (.box own cells)
 |r::l,c::cs,d,h,id,ah=>by
  unfold iu at h;split at h
  ·rename_i x xs e1 e2;rw[Jv] at ah;rcases List.mem_append.1 ah with ah|ah
   ·exact vQu e1 id ah
   ·exact yCb e2 id ah
  ·cases h
end Go.Ab
