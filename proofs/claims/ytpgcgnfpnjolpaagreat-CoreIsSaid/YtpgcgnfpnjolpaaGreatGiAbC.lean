/- part 2 -/
import Derived.Test.YtpgcgnfpnjolpaaGreatGiAbB
import Derived.ProofKit
import Derived.Below
import Derived.Carry
set_option linter.unusedVariables false
set_option linter.unusedSimpArgs false
namespace Go.Ab
def zE.nilObj (M:zE)(nm:Nat)(o:Obj)(sz:Nat):zE:={M with κ:=κset M.κ nm ⟨none,0,sz,0,[]⟩,h:=qH M.h nm o}
def jO (t:Ty)(rows:Bool):Obj:=bif rows then .mat 0 [] else .arr true t []
def eA (t:Ty)(rows:Bool):Nat:=bif rows then 1 else t.size
theorem zE.nilObj_ok {M}(ok:Ok M){nm}(aC:M.h nm=none) t rows:
  Ok (M.nilObj nm (jO t rows) (eA t rows))∧qK M (M.nilObj nm (jO t rows) (eA t rows))∧(∀b,qC (M.nilObj nm (jO t rows) (eA t rows)) b→qC M b):=by
 have hO:∀M':zE,qR M' (jO t rows) ⟨none,0,eA t rows,0,[]⟩:=fun M'=>by
  cases rows with
  |false=>exact⟨rfl,rfl,by simp,rfl⟩
  |true=>exact⟨rfl,rfl,rfl,rfl,by simp[zS.fp],rfl⟩
 have x:qK M (M.nilObj nm (jO t rows) (eA t rows)):=⟨fun id C h=>by
  have ba:id≠nm:=fun e=>by rw[e,ok.non nm aC] at h;cases h
  exact⟨C,by show κset M.κ nm _ id=_;rw[κset_ne _ _ ba];exact h,C.le_refl⟩,fun _ h=>h,fun _ h=>h,fun _ _=>rfl,fun _ _=>rfl,fun _ _=>rfl⟩
 refine⟨Ok.build ok x (fun id=>id=nm) (fun id h=>qN _ _ h) (fun id h=>κset_ne _ _ h) (fun _ _ _ _ _ _ _ _ _=>rfl) (fun id o C h1 h2 h3 h4 b hb=>(ok.own b ⟨id,o,C,h2,h3,h4,hb⟩).1) (Nat.le_refl _)
  (fun id o e h=>?_) (fun id e h=>?_) (fun id o C b e h1 h2 h3 h4=>?_) ok.GF ok.Flt,x,fun b hb=>?_⟩
 ·subst e;have e1:(M.nilObj id (jO t rows) (eA t rows)).h id=some (jO t rows):=qM _ _ _;rw[e1] at h;cases h;exact⟨_,κset_same _ _ _,hO _⟩
 ·have e1:(M.nilObj id (jO t rows) (eA t rows)).h id=some (jO t rows):=qM _ _ _;simp_all
 ·subst e;have e1:(M.nilObj id (jO t rows) (eA t rows)).κ id=some _:=κset_same _ _ _;rw[e1] at h3;cases h3;simp[zS.fp] at h4
 ·obtain⟨id,o,C,h1,h2,h3,h4⟩:=hb;by_cases e:id=nm
  ·subst e;have e1:(M.nilObj id (jO t rows) (eA t rows)).κ id=some _:=κset_same _ _ _;rw[e1] at h3;cases h3;simp[zS.fp] at h4
  ·exact⟨id,o,C,by rw[←h1];exact(qN _ _ e).symm,h2,by rw[←h3];exact(κset_ne _ _ e).symm,h4⟩
theorem jB.same_mem {M M'}(hF:M'.F=M.F)(hG:M'.G=M.G)(hH:M'.H=M.H)(ho:∀b,qC M' b→qC M b):jB M M':=
 ⟨by grind,by grind,by grind,by grind,by grind,by simp_all,by grind,by grind,
  by grind,by grind⟩
theorem jB.refl M:jB M M:=.same_mem rfl rfl rfl (by simp)
section
variable {na nt:Nat} {a0:Nat→Value} {M0:zE} {w0 w:World} {a:Act}
theorem zG.set_left {α β R l}{m:List β}(h:zG R l m){j}{c:α}(hc:∀(h1:j<l.length) h2,R c m[j]):zG R (l.set j c) m:=by
 refine zG.of_get (by rw[List.length_set];exact h.length) fun i hi bU=>?_
 rw[List.length_set] at hi;by_cases e:j=i
 ·simp_all
 ·rw[List.getElem_set_ne e];exact h.get i hi bU
theorem yI5 {st}{s j}(r:yD false na nt a0 M0 w0 st a w):yD false na nt a0 M0 w0 (Ef st s j) a w:=by
 obtain⟨M,h1,h2,h3,h4,h5⟩:=r.ex;unfold Ef;split
 ·split
  ·rename_i c hs;split
   ·rename_i c' u hf;have hv:=h5 s;rw[hs] at hv;rw[←h1] at hf;obtain⟨L,k1,k2,k3,k4,k5,_⟩:=uc h3 (yX.refl _) (show zM M c _ from hv) hf;refine⟨⟨L,by rw[k2,h1],k1.trans h2,k3,h4.trans k4.grow,fun t=>?_⟩,r.defers,r.size,r.os,r.tape,r.output,r.keep⟩;show zK _ (vG st.t s _ t) _;unfold vG;cases e:Nat.beq t s with
    |false=>exact(h5 t).ext k4.ext
    |true=>
     have e:t=s:=by simpa using e
     subst e;exact k5
   ·exact r
  ·exact r
 ·rename_i j;split
  ·rename_i id hs;split
   ·rename_i cells ab;split
    ·rename_i c qO;split
     ·rename_i c' u hf;rw[←h1] at hf ab;obtain⟨C0,iP,hO0⟩:=h3.obj id _ ab;obtain⟨B0,lR,e0,b10,b20,b30,PK,b50⟩:=hO0;have hj:j<cells.length:=(List.getElem?_eq_some_iff.1 qO).1;have FJ:j<lR.toList.length:=by rw[←PK.length];exact hj
      have dO:=PK.get j hj FJ;have ec:cells[j]=c:=by grind
      rw[ec] at dO;obtain⟨L,k1,k2,k3,k4,k5,k6,_⟩:=uc h3 (yX.refl _) dO hf;have nY:L.h id=some (.box true cells):=by
       rcases k6 id with h|⟨own,t,xs,h,_⟩|⟨ver,xs,h,_⟩
       all_goals simp_all
      obtain⟨C,hC,hO⟩:=k3.obj id _ nY;obtain⟨B,vals,e,b1,b2,b3,b4,b5⟩:=hO;obtain⟨C1,c0,le⟩:=k4.ext.κ id C0 iP;rw[hC] at c0;cases c0;have eB:B=B0:=by rw[le.blk,b10] at b1;simp_all
      subst eB;rw[k1,b30] at b3;cases b3;have hx:=zE.write_ext (H':=L.H) k3 nY rfl hC C.le_refl (by simp) (by simp) (.box true (cells.set j c'));have hw := zE.write_ok (H' := L.H) (o' := .box true (cells.set j c')) k3 nY rfl hC C.le_refl (by simp) rfl (by simp) (by simp) (by
       refine⟨B,lR,e0,b1,b2,by show L.H[B]? =_;simp_all,?_,by simp⟩;exact(b4.mono fun _ _ h=>h.ext hx).set_left fun _ _=>k5.ext hx)
      refine⟨⟨L.write id (.box true (cells.set j c')) C L.H,?_,k1.trans h2,hw.1,(h4.trans k4.grow).trans hw.2.grow,fun t=>((h5 t).ext k4.ext).ext hx⟩,r.defers,r.size,r.os,r.tape,r.output,r.keep⟩;show qH L.h id _=qH (zX st.h u) id _;rw[k2,h1]
     ·exact r
    ·exact r
   ·exact r
  ·rename_i cells hs;split
   ·rename_i c qO;split
    ·rename_i c' u hf;have hv:=h5 s;rw[hs] at hv;obtain⟨vs,ca,aL⟩:=hv;rw[←h1] at hf;have hj:j<cells.length:=by grind
     have FJ:j<vs.toList.length:=by rw[←aL.length];exact hj
     have dO:=aL.get j hj FJ;have ec:cells[j]=c:=by grind
     rw[ec] at dO;obtain⟨L,k1,k2,k3,k4,k5,k6,_⟩:=uc h3 (yX.refl _) dO hf;refine⟨⟨L,by rw[k2,h1],k1.trans h2,k3,h4.trans k4.grow,fun t=>?_⟩,r.defers,r.size,r.os,r.tape,r.output,r.keep⟩;show zK _ (vG st.t s _ t) _;unfold vG;cases e:Nat.beq t s with
     |false=>exact(h5 t).ext k4.ext
     |true=>
      have e:t=s:=by simpa using e
      subst e;exact⟨vs,ca,(aL.mono fun _ _ h=>h.ext k4.ext).set_left (by grind)⟩
    ·exact r
   ·exact r
  ·exact r
theorem yHo {st nm g}(r:yD false na nt a0 M0 w0 st a w)(aC:st.h nm=none):yD false na nt a0 M0 w0 (Eg st nm g) a w:=by
 obtain⟨M,h1,h2,h3,h4,h5⟩:=r.ex;have hM:M.h nm=none:=by simp_all
 obtain⟨k1,k2,k3⟩:=M.nilObj_ok h3 hM g.2.2.1 g.2.2.2;have bI:zM (M.nilObj nm (jO g.2.2.1 g.2.2.2) (eA g.2.2.1 g.2.2.2)) (.osl nm none) (.slice none 0 0):=⟨_,κset_same _ _ _,none,0,rfl,rfl,rfl,rfl⟩;have gr:kD false M0 (M.nilObj nm (jO g.2.2.1 g.2.2.2) (eA g.2.2.1 g.2.2.2)):=h4.trans (.same_mem rfl rfl rfl k3);unfold Eg;cases PM:g.2.2.2&&NU g.2.2.1 with
 |true=>exact yI5 r
 |false=>
 split
 ·split
  ·rename_i hs;refine⟨⟨M.nilObj nm (jO g.2.2.1 g.2.2.2) (eA g.2.2.1 g.2.2.2),?_,h2,k1,gr,fun t=>?_⟩,r.defers,r.size,r.os,r.tape,r.output,r.keep⟩
   ·show qH M.h nm _=qH st.h nm _;rw[h1];rfl
   ·show zK _ (vG st.t g.1 _ t) _;unfold vG;cases e:Nat.beq t g.1 with
    |false=>exact(h5 t).ext k2
    |true=>
     have e:t=g.1:=by simpa using e
     subst e;have hv:=h5 g.1;rw[hs] at hv;rw[hv];exact bI
  ·exact r
 ·rename_i j hj;split
  ·rename_i id hs;split
   ·rename_i cells ab;split
    ·have ba:id≠nm:=by grind
     let M1:=M.nilObj nm (jO g.2.2.1 g.2.2.2) (eA g.2.2.1 g.2.2.2);have gJ:M1.h id=some (.box true cells):=by
      show qH M.h nm _ id=_;rw[qN _ _ ba,h1];exact ab
     obtain⟨C,hC,hO⟩:=k1.obj id _ gJ;obtain⟨B,vals,e,b1,b2,b3,b4,b5⟩:=hO;have hx:=zE.write_ext (H':=M1.H) k1 gJ rfl hC C.le_refl (by grind) (by grind) (.box true (cells.set j (.osl nm none)));have hw := zE.write_ok (H' := M1.H) (o' := .box true (cells.set j (.osl nm none))) k1 gJ rfl hC C.le_refl (by simp) rfl (by grind) (by grind) (by
      refine⟨B,vals,e,b1,b2,b3,?_,by simp⟩;have hl:=b4.length;refine zG.of_get (by simp_all) fun i hi bU=>?_
      have hb:=b4.get i (by omega) bU;by_cases PN:j=i
      ·subst PN;rw[List.getElem_set_self];have ec:cells[j]=.nsl:=by
        grind
       rw[ec] at hb;rw[hb];exact bI.ext hx
      ·rw[List.getElem_set_ne PN];exact hb.ext hx)
     refine⟨⟨M1.write id (.box true (cells.set j (.osl nm none))) C M1.H,?_,h2,hw.1,gr.trans hw.2.grow,fun t=>((h5 t).ext k2).ext hx⟩,r.defers,r.size,r.os,r.tape,r.output,r.keep⟩;show qH (qH M.h nm _) id _=qH (qH st.h nm _) id _;rw[h1];rfl
    ·exact r
   ·exact r
  ·exact r
theorem PO:∀{l st bc nm},yD false na nt a0 M0 w0 st a w→zd st nm l=some bc→yD false na nt a0 M0 w0 bc a w
 |[],st,bc,nm,r,h=>by cases h;exact r
 |g::l,st,bc,nm,r,h=>by
  unfold zd at h;split at h
  ·rename_i aC;exact PO (yHo r aC) h
  ·cases h
theorem PQ {id}:∀{l n i},vR id l n=some i→n≤i∧l[i-n]? =some id
 |x::l,n,i,h=>by
  unfold vR at h;cases e:Nat.beq x id with
  |true=>
   simp_all
  |false=>
   rw[e] at h;obtain⟨h1,h2⟩:=PQ (l:=l) h;grind
theorem FK {h}:∀n {todo seen},seen.Nodup→(qa h n todo seen).Nodup
 |0,_,_,hs
 |n+1,[],_,hs=>hs
 |n+1,id::todo,seen,hs=>by
  unfold qa;cases e:seen.any (Nat.beq id) with
  |true=>exact FK n hs
  |false=>
   refine FK n (List.nodup_append.2 ⟨hs,by simp,fun x hx y hy exy=>?_⟩);have:y=id:=by simp_all
   have:=List.any_eq_false.1 e x hx;simp_all
def gO (base : Nat) (κ : Nat → Option zS) (ids : List Nat) : Nat → Option zS := fun n => if base ≤ n then (match ids[n-base]? with
 |some id=>(κ id).map fun C=>{C with ver:=0}
 |none=>none) else none
def zE.ren (M:zE)(base:Nat)(ids:List Nat):zE:={M with κ:=gO base M.κ ids,h:=nr base M.h ids}
theorem yCl {base h ids n o}(e:nr base h ids n=some o):∃id o',base≤n∧ids[n-base]? =some id∧h id=some o'∧o=lC h (fun i=>(vR i ids 0).map (base+·)) o':=by
 unfold nr at e;cases hb:Nat.ble base n with
 |false=>simp_all
 |true=>
  rw[hb] at e;split at e
  ·obtain⟨o',h1,h2⟩:=Option.map_eq_some_iff.1 e;simp_all
  ·cases e
theorem yMc {base κ ids id i C}(hi:vR id ids 0=some i)(hC:κ id=some C):gO base κ ids (base+i)=some {C with ver:=0}:=by
 obtain⟨_,h⟩:=PQ hi;unfold gO;simp_all
theorem FL {M}(ok:Ok M){base ids c v}(h:zM M c v):zM (M.ren base ids) (lB M.h (fun i=>(vR i ids 0).map (base+·)) c) v:=by
 have h1:=h.one;have look:∀id C,M.κ id=some C→∀i,(vR id ids 0).map (base+·)=some i→(M.ren base ids).κ i=some {C with ver:=0}:=fun id C hC i hi=>by
  obtain⟨j,hj,rfl⟩:=Option.map_eq_some_iff.1 hi;exact yMc hj hC
 unfold lB;cases c with
 |osl id r=>
  dsimp only;obtain⟨C,hC,h⟩:=h;cases e:(vR id ids 0).map (base+·) with
  |none=>exact h1
  |some i=>cases r with
   |none=>exact⟨_,look id C hC i e,h⟩
   |some p=>exact⟨_,look id C hC i e,h⟩
 |bsl id x y=>
  dsimp only;obtain⟨C,B,hC,h⟩:=h;cases e:(vR id ids 0).map (base+·) with
  |none=>exact h1
  |some i=>exact⟨_,B,look id C hC i e,h⟩
 |ptr id x=>
  dsimp only;obtain⟨C,B,hC,h⟩:=h;cases e:(vR id ids 0).map (base+·) with
  |none=>exact h1
  |some i=>exact⟨_,B,look id C hC i e,h⟩
 |eptr id x y=>
  dsimp only;obtain⟨C,B,hC,h⟩:=h;cases e:(vR id ids 0).map (base+·) with
  |none=>exact h1
  |some i=>exact⟨_,B,look id C hC i e,h⟩
 |mrow id x ver=>
  dsimp only;obtain⟨C,hC,ho,hle,h⟩:=h;cases e:(vR id ids 0).map (base+·) with
  |none=>exact h1
  |some i=>
   split
   ·rename_i i' v' xs ei ab;cases ei;cases cJ:Nat.beq v' ver with
    |false=>exact h1
    |true=>
     have ef:v'=ver:=by simpa using cJ
     obtain⟨C',aj,hO⟩:=ok.obj id _ ab;rw[hC] at aj;cases aj;exact⟨_,look id C hC i e,h1,Nat.le_refl _,fun _=>h (by rw[hO.1,ef])⟩
   ·exact h1
 |mptr id x=>
  dsimp only;obtain⟨C,B,hC,h⟩:=h;cases e:(vR id ids 0).map (base+·) with
  |none=>exact h1
  |some i=>exact⟨_,B,look id C hC i e,h⟩
 |meptr id x y ver=>
  dsimp only;obtain⟨C,hC,ho,hle,h⟩:=h;cases e:(vR id ids 0).map (base+·) with
  |none=>exact h1
  |some i=>
   split
   ·rename_i i' v' xs ei ab;cases ei;cases cJ:Nat.beq v' ver with
    |false=>exact h1
    |true=>
     have ef:v'=ver:=by simp_all
     obtain⟨C',aj,hO⟩:=ok.obj id _ ab;rw[hC] at aj;cases aj;exact⟨_,look id C hC i e,h1,by simp,fun _=>h (by rw[hO.1,ef])⟩
   ·exact h1
 |map id=>
  dsimp only;obtain⟨C,B,hC,h⟩:=h;cases e:(vR id ids 0).map (base+·) with
  |none=>exact h1
  |some i=>exact⟨_,B,look id C hC i e,h⟩
 |fn f cap=>
  dsimp only;obtain⟨cv,rfl,h⟩:=h;split
  ·rename_i c hc;refine⟨cv,rfl,?_⟩;have:=uI _ _ _ hc;generalize cv.toList=l at h;clear hc h1
   induction cap generalizing c l with
   |nil=>cases c with
    |nil=>cases l with
     |nil=>trivial
     |cons _ _=>exact h.elim
    |cons _ _=>exact this.elim
   |cons x cap ih=>cases c with
    |nil=>exact this.elim
    |cons y c=>cases l with
     |nil=>exact h.elim
     |cons u l=>
      obtain⟨⟨C,B,hC,hh⟩,h⟩:=h;exact⟨⟨_,B,look x C hC y this.1,hh⟩,ih c this.2 l h⟩
  rfl
 |fsl sh t xs=>exact h
 |fptr sh t x off=>exact h
 |_=>exact h
theorem uU {M}(ok:Ok M){base ids}:∀{cs vs},zG (zM M) cs vs→zG (zM (M.ren base ids)) (cs.map (lB M.h fun i=>(vR i ids 0).map (base+·))) vs
 |[],[],_=>trivial
 |_::_,_::_,h=>⟨FL ok h.1,uU ok h.2⟩
theorem yDd {M}(ok:Ok M){base ids x v}(h:zK M x v):zK (M.ren base ids) (NT M.h (fun i=>(vR i ids 0).map (base+·)) x) v:=by
 cases x with
 |undef=>trivial
 |skp=>exact h
 |c x=>exact FL (c:=x) ok h
 |agg cs=>
  obtain⟨vs,h1,h2⟩:=h;exact⟨vs,h1,uU ok h2⟩
 |tup xs=>
  obtain⟨vs,h1,h2⟩:=h;refine⟨vs,h1,zG.map_left (h2.mono fun p u hp=>?_)⟩;obtain⟨b,cs⟩:=p;cases b with
  |true=>
   obtain⟨us,q1,q2⟩:=hp;exact⟨us,q1,uU ok q2⟩
  |false=>
   cases cs with
   |nil=>exact hp
   |cons c cs=>cases cs with
    |nil=>exact FL (c:=c) ok hp
    |cons _ _=>exact hp
theorem PR {M}(ok:Ok M){base ids o C}(h:qR M o C):qR (M.ren base ids) (lC M.h (fun i=>(vR i ids 0).map (base+·)) o) {C with ver:=0}:=by
 cases o with
 |box own cells=>
  obtain⟨B,vals,e,h1,h2,h3,h4,h5⟩:=h;exact⟨B,vals,e,h1,h2,h3,uU ok h4,h5⟩
 |robox cells=>
  obtain⟨B,vals,e,h1,h2,h3,h4,h5⟩:=h;exact⟨B,vals,e,h1,h2,h3,uU ok h4,h5⟩
 |arr own t xs=>exact h
 |mat ver xs=>
  obtain⟨h1,h2⟩:=h;exact⟨rfl,h2⟩
 |pmat ver xs n=>
  obtain⟨h1,h2⟩:=h;exact⟨rfl,h2⟩
 |imap bQ=>exact h
 |gone=>trivial
theorem FM {h ρ} o:(lC h ρ o).owned=o.owned:=by cases o<;>rfl
theorem zE.ren_ok {M}(ok:Ok M){base ids}(cc:ids.Nodup):Ok (M.ren base ids)∧∀b,qC (M.ren base ids) b→qC M b:=by
 have at':∀n o,(M.ren base ids).h n=some o→∃id o' C,base≤n∧ids[n-base]? =some id∧M.h id=some o'∧M.κ id=some C∧o=lC M.h (fun i=>(vR i ids 0).map (base+·)) o'∧qR M o' C∧(M.ren base ids).κ n=some {C with ver:=0}:=fun n o h=>by
  obtain⟨id,o',h1,h2,h3,h4⟩:=yCl h;obtain⟨C,hC,hO⟩:=ok.obj id _ h3;refine⟨id,o',C,h1,h2,h3,hC,h4,hO,?_⟩;show gO base M.κ ids n=_;unfold gO;simp_all
 have ft:∀b,qC (M.ren base ids) b→qC M b:=fun b ⟨n,o,C,h1,h2,h3,h4⟩=>by
  obtain⟨id,o',C',k1,k2,k3,k4,k5,k6,k7⟩:=at' n o h1;rw[k7] at h3;cases h3;exact⟨id,o',C',k3,by rw[←h2,k5,FM],k4,h4⟩
 refine⟨⟨fun n o h=>?_,fun n h=>?_,fun i j oi oj Ci Cj b fx h1 h2 h3 h4 h5 h6 h7 h8=>?_,fun b h=>ok.own b (ft b h),ok.GF,ok.Flt⟩,ft⟩
 ·obtain⟨id,o',C,k1,k2,k3,k4,rfl,k6,k7⟩:=at' n o h;exact⟨_,k7,PR ok k6⟩
 ·show gO base M.κ ids n=none;unfold gO;split
  ·rename_i hb;split
   ·rename_i id ab;have:M.h id=none:=by
     cases e:M.h id with
     |none=>rfl
     |some o=>
      have:(M.ren base ids).h n=some (lC M.h (fun i=>(vR i ids 0).map (base+·)) o):=by
       show nr base M.h ids n=_;unfold nr;rw[show Nat.ble base n=true from Nat.ble_eq_true_of_le hb,ab];simp[e]
      simp_all
    rw[ok.non id this];rfl
   ·rfl
  ·rfl
 ·obtain⟨id,o',C,k1,k2,k3,k4,k5,k6,k7⟩:=at' i oi h1;obtain⟨jd,p',D,q1,q2,q3,q4,q5,q6,q7⟩:=at' j oj h2;rw[k7] at h5;rw[q7] at h6;cases h5;cases h6;refine ok.disj id jd o' p' C D b (fun e=>?_) k3 q3 (by rw[←h3,k5,FM]) (by rw[←h4,q5,FM]) k4 q4 h7 h8;have hi:=(List.getElem?_eq_some_iff.1 k2);have hj:=(List.getElem?_eq_some_iff.1 q2);have:=(List.getElem_inj (h₀:=hi.1) (h₁:=hj.1) cc).1 (by omega);omega
theorem PS:∀{a b},yy a b=true→a=b
 |[],[],_=>rfl
 |x::a,y::b,h=>by
  simp only[yy,Bool.and_eq_true] at h;rw[Nat.eq_of_beq_eq_true h.1,PS h.2]
theorem yC4 {c v}(h:D9 c v=true):c=.undef∨c=v:=by
 unfold D9 at h;split at h
 ·simp
 ·simp
 ·simp
 ·simp
 ·simp
 ·simp_all
 ·simp_all
 ·simp_all
 ·simp only[Bool.and_eq_true] at h;exact .inr (by rw[Nat.eq_of_beq_eq_true h.1,PS h.2])
 all_goals simp_all
theorem fZ {α:Type}{c x}{y:α}(h:(bif c then x else none)=some y):c=true∧x=some y:=by
 grind
theorem kG {M}(ok:Ok M):∀{l cs d vs},eP l cs=some d→zG (zM M) cs vs→zG (zM M) (gF l d) vs
 |[],[],_,[],_,_=>trivial
 |.int k::l,c::cs,d,v::vs,h,hv=>by
  cases c<;>first|(cases h;done)|skip
  obtain⟨hk,h⟩:=fZ h;split at h
  ·rename_i d' hd;cases h;refine⟨?_,kG ok hd hv.2⟩;rw[←ka hk];exact hv.1
  ·cases h
 |.bool::l,c::cs,d,v::vs,h,hv=>by
  cases c<;>first|(cases h)|skip
  unfold eP at h;split at h
  ·rename_i d' hd;cases h;exact⟨hv.1,kG ok hd hv.2⟩
  ·cases h
 |.dat sh t::l,c::cs,d,v::vs,h,hv=>by
  cases c<;>first|(cases h;done)|skip
  ·rename_i tV s xs;obtain⟨hs,h⟩:=fZ h;split at h
   ·rename_i ys d' hx hd;cases h;obtain⟨e,hx⟩:=dM hx;subst e;subst hx;refine⟨?_,kG ok hd hv.2⟩;have h1:zT M.H (bif tV then M.G else M.F) (.sl s) xs (fun _=>some v):=hv.1;cases sh with
    |true=>
     have:tV=true:=by simp_all
     subst this;exact h1
    |false=>cases tV with
     |false=>exact h1
     |true=>exact qS ok.GF (by simp) _ _ _ _ (by simp) h1
   ·cases h
  ·unfold eP at h;split at h
   ·rename_i d' hd;cases h;refine⟨?_,kG ok hd hv.2⟩;rw[show v=.slice none 0 0 from hv.1];exact⟨none,0,0,rfl,rfl,by simp,by simp⟩
   ·cases h
 |.lit c::l,x::cs,d,v::vs,h,hv=>by
  obtain⟨he,h⟩:=fZ h;refine⟨?_,kG ok h hv.2⟩;rcases yC4 he with rfl|rfl
  ·exact hv.1.one
  ·exact hv.1
theorem yPp {M}(ok:Ok M){v a d rv}(h:Ea v a=some d)(hv:zK M a rv):zK M (Eb v d) rv:=by
 cases v with
 |c x=>
  cases a with
  |c y=>
   have:=kG ok (vs:=[rv]) (show eP [x] [y]=some d from h) ⟨hv,trivial⟩;show zK M (match gF [x] d with|c::_=>.c c|[]=>.undef) rv
   match hh:gF [x] d,this with
   |[c],this=>exact this.1
  |_=>cases h
 |agg l=>
  cases a with
  |agg vs=>
   obtain⟨us,rfl,hx⟩:=hv;exact⟨us,rfl,kG ok (show eP l vs=some d from h) hx⟩
  |_=>cases h
theorem yFv {M}(ok:Ok M){o x d C}(h:yz o x=some d)(hO:qR M x C)(hv:C.ver=0):qR M (y7 o d) C∧(y7 o d).owned=x.owned:=by
 unfold yz at h;split at h
 ·obtain⟨he,h'⟩:=fZ h;have he:=eq_of_beq he;subst he;clear h;obtain⟨B,vals,e,h1,h2,h3,h4,h5⟩:=hO;exact⟨⟨B,vals,e,h1,h2,h3,kG ok h' h4,h5⟩,rfl⟩
 ·obtain⟨B,vals,e,h1,h2,h3,h4,h5⟩:=hO;exact⟨⟨B,vals,e,h1,h2,h3,kG ok h h4,h5⟩,rfl⟩
 ·obtain⟨he,h'⟩:=fZ h;have he:=eq_of_beq he;subst he;obtain⟨e,hx⟩:=dM h';subst e;subst hx;exact⟨hO,rfl⟩
 ·cases h;exact⟨⟨hv,hO.2⟩,rfl⟩
 ·cases h;exact⟨⟨hv,hO.2⟩,rfl⟩
 ·cases h;exact⟨hO,rfl⟩
 ·cases h
theorem PT {f t}:∀{l d n v},ze f t l=some d→(pX l d).lookup n=some v→∃(s:VS) (x:SL s.cells),Ea s (f (t n))=some x∧v=Eb s x
 |s::l,d,n,v,hr,h=>by
  unfold ze at hr;split at hr
  ·rename_i x ds h1 h2;cases hr;unfold pX at h;rw[List.lookup_cons] at h;cases e:n==s.1 with
   |true=>
    grind
   |false=>
    rw[e] at h;exact PT h2 h
  ·cases hr
theorem PU {f h0}:∀{l ids d},zg f h0 l ids=some d→(kh l d).length=ids.length∧∀(i:Nat) o,(kh l d)[i]? =some o→∃(s:OS) (x:s.den) (id:Nat) (y:Obj),ids[i]? =some id∧h0 id=some y∧yz s (f y)=some x∧o=y7 s x
 |[],[],d,_=>⟨rfl,nofun⟩
 |s::l,id::ids,d,h=>by
  unfold zg at h;split at h
  ·rename_i x ds h1 h2;cases h;obtain⟨y,h3,h4⟩:=Option.bind_eq_some_iff.1 h1;obtain⟨k1,k2⟩:=PU h2;refine⟨by simp[kh,k1],fun i o hi=>?_⟩;cases i with
   |zero=>
    simp[kh] at hi;grind
   |succ i=>
    simp[kh] at hi;simp_all
  ·cases h
theorem yP0 {g0 base n:Nat}{S:zF}{st:St}{d:S.den}(r:yD false na nt a0 M0 w0 st a w)(h:Eh g0 base n S st=some d):yD false na nt a0 M0 w0 (zL base S d) a w:=by
 unfold Eh at h;split at h
 ·cases h
 rename_i st1 hg;have r:=PO r hg;dsimp only at h;generalize ew:qa st1.h n _ []=ids at h;have cc:ids.Nodup:=by rw[←ew];exact FK n List.nodup_nil
 split at h
 case h_2=>cases h
 rename_i da db ha hb;cases h;obtain⟨M,h1,h2,h3,h4,h5⟩:=r.ex;rw[←h1] at ha hb;obtain⟨k1,k2⟩:=M.ren_ok h3 (base:=base) cc;obtain⟨ol,oa⟩:=PU hb;let M':zE:={M.ren base ids with h:=(zL base S (da,db)).h};have Aw:∀n o',M'.h n=some o'→∃o C,(M.ren base ids).h n=some o∧M'.κ n=some C∧qR (M.ren base ids) o' C∧o'.owned=o.owned:=fun m o' e=>by
  have e:(bif Nat.ble base m then(kh S.objs db)[m-base]? else none)=some o':=e;obtain⟨hle,e⟩:=fZ e;obtain⟨s,x,id,y,q1,q2,q3,rfl⟩:=oa _ _ e;obtain⟨C,hC,hO⟩:=h3.obj id y q2;have hκ:(M.ren base ids).κ m=some {C with ver:=0}:=by
   show gO base M.κ ids m=_;unfold gO;simp_all
  have hh:(M.ren base ids).h m=some (lC M.h (fun i=>(vR i ids 0).map (base+·)) y):=by
   show nr base M.h ids m=_;unfold nr;grind
  obtain⟨p1,p2⟩:=yFv k1 q3 (PR h3 hO) rfl;grind
 have x:qK (M.ren base ids) M':=⟨fun _ C h=>⟨C,h,C.le_refl⟩,fun _ h=>h,fun _ h=>h,fun _ _=>rfl,by grind,fun _ _=>rfl⟩;have au:∀b,qC M' b→qC (M.ren base ids) b:=fun b ⟨id,o',C,q1,q2,q3,q4⟩=>by
  obtain⟨o,D,p1,p2,p3,p4⟩:=Aw id o' q1;exact⟨id,o,C,p1,by rw[←p4];exact q2,q3,q4⟩
 have dC:Ok M':=by
  refine⟨fun id o' q=>?_,fun id q=>?_,fun i j oi oj Ci Cj b fx q1 q2 q3 q4 q5 q6 q7 q8=>?_,fun b hb=>k1.own b (au b hb),k1.GF,k1.Flt⟩
  ·obtain⟨o,C,p1,p2,p3,p4⟩:=Aw id o' q;exact⟨C,p2,p3.ext x (by grind)⟩
  ·have q:(bif Nat.ble base id then(kh S.objs db)[id-base]? else none)=none:=q;show gO base M.κ ids id=none;unfold gO;cases hle:Nat.ble base id with
   |false=>rw[if_neg fun h=>by rw[Nat.ble_eq_true_of_le h] at hle;cases hle]
   |true=>
    simp_all
  ·obtain⟨o1,C1,p1,p2,p3,p4⟩:=Aw i oi q1;obtain⟨o2,C2,p5,p6,p7,p8⟩:=Aw j oj q2;exact k1.disj i j o1 o2 Ci Cj b fx p1 p5 (by rw[←p4];exact q3) (by rw[←p8];exact q4) q5 q6 q7 q8
 refine⟨⟨M',rfl,h2,dC,h4.trans (.same_mem rfl rfl rfl (by grind)),fun m=>?_⟩,r.defers,r.size,r.os,r.tape,r.output,r.keep⟩;show zK M' (match(pX S.slots da).lookup m with|some v=>v|none=>.undef) _;cases hl:(pX S.slots da).lookup m with
 |none=>trivial
 |some v=>
  obtain⟨s,y,q1,rfl⟩:=PT ha hl;exact(yPp k1 q1 (yDd h3 (h5 m))).ext x
theorem Ax {pre S st d}(r:yD false na nt a0 M0 w0 st a w)(h:tX pre S st=some d):yD false na nt a0 M0 w0 (zL (pre+wI) S d) a w:=yP0 r h
end
end Go.Ab
set_option linter.unusedSectionVars false
namespace Go.Ab
def Ex.toExit:Ex→Exit
 |.normal=>.normal
 |.ret=>.ret
 |.exit id=>.exit id
theorem PV {P Q c}(I:Nat→Act→World→Prop)(round:∀n a w,I n a w→c.wp P (Exit.then (fun a' w'=>∃m,m<n∧I m a' w') Q) a w){n a w}(h₀:I n a w):(Code.loop c).wp P Q a w:=by
 intro b k cs;have key:∀n a w,I n a w→∃e a' w',Q e a' w'∧Arrives P (lone (b.at a (.code c::.inLoop c::k)) cs w) b k cs e a' w':=by
  intro n
  induction n using Nat.strongRecOn with
  |_ n ih=>
   intro a w hI;obtain⟨e,a₁,w₁,hq,dG⟩:=round n a w hI b (.inLoop c::k) cs;cases e with
   |normal=>
    obtain⟨m,hm,hI₁⟩:=hq;obtain⟨e₂,a₂,w₂,hq₂,harr₂⟩:=ih m hm a₁ w₁ hI₁;exact⟨e₂,a₂,w₂,hq₂,.of_steps (Steps.trans dG (.one step_inLoop)) harr₂⟩
   |exit id=>exact⟨_,a₁,w₁,hq,.pass (x:=.inLoop c) rfl (by simp) dG⟩
   |goto l=>exact⟨_,a₁,w₁,hq,.pass (x:=.inLoop c) rfl (by simp) dG⟩
   |ret=>exact⟨_,a₁,w₁,hq,.pass (x:=.inLoop c) rfl (fun _ _=>.inl (by simp)) dG⟩
   |panic ch=>exact⟨_,a₁,w₁,hq,.pass (x:=.inLoop c) rfl (fun _ _=>.inl (by simp)) dG⟩
   |outgrown=>exact⟨_,a₁,w₁,hq,.pass (x:=.inLoop c) rfl (by simp) dG⟩
 obtain⟨e,a',w',hq,dG⟩:=key n a w h₀;exact⟨e,a',w',hq,.of_steps (.one step_loop) dG⟩
def Ay (tmps:Array Value):ResultVar→Sem Value
 |.tmp t=>pure (tmps.getD t undef)
 |.cell c t=>do loadVar t (←asAddr (tmps.getD c undef))
def nZ (base:Nat):(l:List (Ex×zF))→ly l→Ex×St
 |[],d=>(.normal,⟨fun _=>.undef,fun _=>none⟩)
 |[p],d=>(p.1,zL base p.2 d)
 |p::q::l,d=>match d with
  |.inl d=>(p.1,zL base p.2 d)
  |.inr d=>nZ base (q::l) d
theorem PW {R base K}{out:R}:∀{l d},qc base l d K=some out→K (nZ base l d).1 (nZ base l d).2=some out
 |[p],_,h
 |p::q::l,.inl d,h=>h
 |p::q::l,.inr d,h=>PW (l:=q::l) h
def uV (base:Nat):(l:List zF)→ki l→St
 |[],_=>⟨fun _=>.undef,fun _=>none⟩
 |[S],d=>zL base S d
 |S::T::l,d=>match d with
  |.inl d=>zL base S d
  |.inr d=>uV base (T::l) d
theorem PX {R base K}{out:R}:∀{l d},zh base l d K=some out→K (uV base l d)=some out
 |[S],_,h
 |S::T::l,.inl d,h=>h
 |S::T::l,.inr d,h=>PX (l:=T::l) h
def zY (P:Program)(pre na nt:Nat)(b:Code)(L:qB):Prop:=∀k d x,L.sum k d=some x→∀(a0:Nat→Value) (M0:zE) (w0:World) (a:Act) (w:World) (Q:Exit→Act→World→Prop),
 yD false na nt a0 M0 w0 (uV (pre+wI) L.ins d) a w→
 (∀(o:ly L.outs) a' w',(∀R K,L.elim (pre+wI) x R K=qc (pre+wI) L.outs o K)→yD false na nt a0 M0 w0 (nZ (pre+wI) L.outs o).2 a' w'→Q (nZ (pre+wI) L.outs o).1.toExit a' w')→
 (Code.loop b).wp P Q a w
def yS (P:Program)(A:qA)(pre na nt:Nat):Code→Prop
 |.seq a b=>yS P A pre na nt a∧yS P A pre na nt b
 |.cond _ a b=>yS P A pre na nt a∧yS P A pre na nt b
 |.block _ b=>yS P A pre na nt b
 |.loop b=>(∀L,lD A b=some L→zY P pre na nt b L)∧(lD A b=none→yS P A pre na nt b)
 |_=>True
theorem PY {A c b st}(h:st.ev c=.c (.bool b)):zi A c b st=st:=by
 unfold zi;split
 ·rw[Fw h]
 ·rfl
section
variable {nl:Bool} {E:wW} {A:qA} {k pre na nt:Nat} {a0:Nat→Value} {R:Type} {M0:zE} {w0:World} {out:R}
theorem FN {a w st}(r:yD false na nt a0 M0 w0 st a w):∀{l x},qb pre l st=some x→yD false na nt a0 M0 w0 (uV (pre+wI) l x) a w
 |[S],x,h=>Ax r h
 |S::T::l,x,h=>by
  unfold qb at h;split at h
  ·rename_i d hd;cases h;exact Ax r hd
  ·split at h
   ·rename_i d hd;cases h;exact FN r (l:=T::l) hd
   ·cases h
theorem PZ (hE:wC E)(hS:jQ E.sums)(hm:E.P.follows .mixedOrders=true)(Ai:nl=true→A.loops=[]):∀c,yS E.P A pre na nt c→∀st K a w Q,jJ E A k pre na nt c st K=some out→yD nl na nt a0 M0 w0 st a w→
  (∀e bc a' w',yD nl na nt a0 M0 w0 bc a' w'→K e bc=some out→Q e.toExit a' w')→c.wp E.P Q a w:=by
 intro c
 induction c with
 |skip=>exact fun _ st K a w Q h r hK=>wp_skip (hK .normal st a w r h)
 |region id ops draw=>
  intro _ st K a w Q h r hK;cases draw with
  |true=>
   cases he:tW ops with
   |false=>simp only[jJ,he] at h;cases h
   |true=>
    simp only[jJ,he] at h;exact yJq hE hS hm he h r fun bc a' w' r' h'=>hK .normal bc a' w' r' h'
  |false=>
   have:=Pw hE (Q:=Q) _ _ _ _ a w (by grind) h r fun bc a' w' r' h'=>hK .normal bc a' w' r' h'
   refine wp_region ?_;have e:(ops.toList.zipIdx.map fun p=>(p.2,p.1)).map (·.1)=List.range ops.size:=by
    rw[List.map_map];have e2:((fun x:Nat×Oper=>x.1)∘fun p:Oper×Nat=>(p.2,p.1))=Prod.snd:=rfl;rw[e2,List.zipIdx_map_snd,←List.range_eq_range'];simp
   simp_all
 |seq x y FO FP=>
  intro hL st K a w Q h r hK;simp only[jJ] at h;refine wp_seq (FO hL.1 st _ a w _ h r fun e bc a' w' r' h'=>?_);cases e with
  |normal=>exact FP hL.2 bc K a' w' Q h' r' hK
  |ret=>exact hK .ret bc a' w' r' h'
  |exit id=>exact hK (.exit id) bc a' w' r' h'
 |cond c x y FO FP=>
  intro hL st K a w Q h r hK;simp only[jJ] at h;split at h
  ·rename_i t ht;obtain⟨M,_,_,_,_,hv⟩:=r.ex;have hc:=Ps hv c;rw[ht] at hc;refine wp_cond (t:=t) hc ?_;cases t with
   |true=>
    rw[PY ht,cond_true] at h;exact FO hL.1 st K a w Q h r hK
   |false=>
    rw[PY ht,cond_false] at h;exact FP hL.2 st K a w Q h r hK
  ·cases h
 |block id b ih=>
  intro hL st K a w Q h r hK;simp only[jJ] at h;refine wp_block (ih hL st _ a w _ h r fun e bc a' w' r' h'=>?_);cases e with
  |normal=>exact hK .normal bc a' w' r' h'
  |ret=>exact hK .ret bc a' w' r' h'
  |exit i=>
   show if i=id then Q .normal a' w' else Q (.exit i) a' w'
   dsimp only at h';cases e:Nat.beq i id with
   |true=>
    rw[e] at h';rw[if_pos (by simpa using e)];exact hK .normal bc a' w' r' h'
   |false=>
    rw[e] at h';rw[if_neg (fun e'=>by simp_all)];exact hK (.exit i) bc a' w' r' h'
 |loop b ih=>
  intro hL st K a w Q h r hK;simp only[jJ] at h;split at h
  ·rename_i hN;refine PV (fun n a w=>∃st,yD nl na nt a0 M0 w0 st a w∧Ei (jJ E A k pre na nt b) n st K=some out) (fun n a w ⟨st,r,hi⟩=>?_) ⟨st,r,h⟩;cases n with
   |zero=>cases hi
   |succ n=>
    refine ih (hL.2 hN) st _ a w _ hi r fun e bc a' w' r' h'=>?_
    cases e with
    |normal=>exact⟨n,by simp,bc,r',h'⟩
    |ret=>exact hK .ret bc a' w' r' h'
    |exit id=>exact hK (.exit id) bc a' w' r' h'
  ·rename_i L hN;split at h
   ·cases h
   ·rename_i d hd;obtain⟨x,hx,h⟩:=Option.bind_eq_some_iff.1 h;cases nl with
    |true=>
     unfold lD at hN;grind
    |false=>exact hL.1 L hN k d x hx a0 M0 w0 a w Q (FN r hd) fun o a' w' ho r'=>hK _ _ a' w' r' (PW (by simp_all))
 |exit id=>exact fun _ st K a w Q h r hK=>wp_exit (hK (.exit id) st a w r h)
 |ret=>exact fun _ st K a w Q h r hK=>wp_ret (hK .ret st a w r h)
 |_=>nofun
theorem P0 {a b}(h:Ec a b=true):a=b:=by
 cases a<;>cases b<;>first|rfl|(cases h)|skip
 rw[Nat.eq_of_beq_eq_true h]
theorem P1 {a w st e}(r:yD false na nt a0 M0 w0 st a w):∀{l x},tY pre l e st=some x→(nZ (pre+wI) l x).1=e∧yD false na nt a0 M0 w0 (nZ (pre+wI) l x).2 a w
 |[p],x,h=>by
  obtain⟨he,h⟩:=fZ h;exact⟨P0 he,Ax r h⟩
 |p::q::l,x,h=>by
  unfold tY at h;split at h
  ·rename_i d hd;cases h;obtain⟨he,hd⟩:=fZ hd;exact⟨P0 he,Ax r hd⟩
  ·split at h
   ·rename_i d hd;cases h;exact P1 r (l:=q::l) hd
   ·cases h
theorem yFu (hE:wC E)(hS:jQ E.sums)(hm:E.P.follows .mixedOrders=true){b ins outs}(hL:yS E.P A pre na nt b){X} eQ elim (hX:∀o R K,elim (pre+wI) (eQ o) R K=qc (pre+wI) outs o K)
  (rec:Nat→Nat→ki ins→Option X) (h0:∀k d,rec k 0 d=none)
  (aA:∀k n d,rec k (n+1) d=zh (pre+wI) ins d fun st=>jJ E A k pre na nt b st (NV pre ins outs eQ (rec k n))):zY E.P pre na nt b ⟨ins,outs,X,fun k d=>rec k k d,elim⟩:=by
 intro k d x hx a0 M0 w0 a w Q r hQ;refine PV (fun n a w=>∃d,yD false na nt a0 M0 w0 (uV (pre+wI) ins d) a w∧rec k n d=some x) (fun n a w ⟨d,r,hi⟩=>?_) ⟨d,r,hx⟩;cases n with
 |zero=>simp_all
 |succ n=>
  rw[aA k n d] at hi;refine PZ hE hS hm (by simp) b hL _ _ a w _ (PX hi) r fun e bc a' w' r' h'=>?_
  have out:∀e,(match tY pre outs e bc with|some o=>some (eQ o)|none=>none)=some x→Q e.toExit a' w':=fun e h'=>by
   split at h'
   ·rename_i o ho;obtain⟨h1,h2⟩:=P1 (pre:=pre) r' ho;grind
   ·cases h'
  cases e with
  |normal=>
   have h':(match qb pre ins bc with|some d=>rec k n d|none=>none)=some x:=h';split at h'
   ·rename_i d' hd;exact⟨n,by simp,d',FN r' hd,h'⟩
   ·cases h'
  |ret=>exact out .ret h'
  |exit id=>exact out (.exit id) h'
theorem yCd fn tmps:results fn tmps=(do let vs←fn.results.mapM (Ay tmps);pure (if h:vs.size=1 then vs[0] else .tuple vs)):=rfl
theorem yDs (hE:wC E)(hS:jQ E.sums)(hm:E.P.follows .mixedOrders=true){st}{a:Act}{w x v M}(hM:M.h=st.h)(hH:M.H=w.heap)(ok:Ok M)(ht:∀t,zK M (st.t t) (a.tmps.getD t undef))(h:lE E st x=some v):
  ∃rv,(Ay a.tmps x).run E.P w=.ok rv w∧zK M v rv:=by
 unfold lE at h;split at h
 ·rename_i t;cases h;exact⟨_,rfl,ht t⟩
 ·rename_i c t;split at h
  ·rename_i id off hc;split at h
   ·split at h
    ·rename_i vs cD;have hv:=ht c;rw[hc] at hv;obtain⟨C,B,hC,hB,e⟩:=hv;obtain⟨C',aj,hO⟩:=ok.obj id _ (by rw[hM];omega);rw[hC] at aj;cases aj;obtain⟨B',dB,aq⟩:=N5 hO;rw[hB] at dB;cases dB;obtain⟨rv2,fE,bW⟩:∃rv,(loadVar t ⟨B,0+off,none⟩).run E.P w=.ok rv w∧zK M v rv:=N4 ok hH aq cD h;refine⟨rv2,?_,bW⟩;simp  at fE;unfold Ay;dsimp only;rw[e];simp[asAddr,fE]
    ·cases h
   ·cases h
  ·cases h
theorem yRn {M v p rv}(h:qd v=some p)(hv:zK M v rv):lF M p rv:=by
 unfold qd at h;split at h
 ·cases h;exact hv
 ·cases h;exact hv
 ·cases h
theorem P2 {M}:∀{vs xs rs},zG (fun a b=>qd a=some b) vs xs→zG (zK M) vs rs→zG (lF M) xs rs
 |[],[],[],_,_=>trivial
 |_::_,_::_,_::_,h,k=>⟨yRn h.1 k.1,P2 h.2 k.2⟩
theorem P3 {st}:∀(l:List ResultVar) xs,l.mapM (fun r=>(lE E st r).bind qd)=some xs→∃vs,l.mapM (lE E st)=some vs∧vs.mapM qd=some xs
 |[],xs,h=>by simp_all
 |x::l,xs,h=>by
  simp only[List.mapM_cons,Option.bind_eq_bind,Option.bind_eq_some_iff] at h;obtain⟨p,⟨v,h1,h2⟩,ps,h3,h4⟩:=h;obtain⟨vs,k1,k2⟩:=P3 l ps h3;simp_all
theorem yG6 (hE:wC E)(hS:jQ E.sums)(hm:E.P.follows .mixedOrders=true){fn st}{a:Act}{w v M}(hM:M.h=st.h)(hH:M.H=w.heap)(ok:Ok M)(ht:∀t,zK M (st.t t) (a.tmps.getD t undef))(h:zj E fn st=some v):
  ∃rv,(results fn a.tmps).run E.P w=.ok rv w∧zK M v rv:=by
 have one:=fun x v=>yDs hE hS hm (x:=x) (v:=v) hM hH ok ht
 have key:∀(l:List ResultVar) (vs:List zO),l.mapM (lE E st)=some vs→∃rs:List Value,(l.mapM (Ay a.tmps)).run E.P w=.ok rs w∧zG (zK M) vs rs:=by
  intro l
  induction l with
  |nil=>exact fun vs h=>by simp at h;subst h;exact⟨[],rfl,trivial⟩
  |cons x l ih=>
   intro vs h;simp[Option.bind_eq_some_iff] at h;obtain⟨v,h1,EI,h2,h3⟩:=h;cases h3;obtain⟨rv,k1,k2⟩:=one x v h1;obtain⟨rs,k3,k4⟩:=ih EI h2;refine⟨rv::rs,?_,k2,k4⟩;simp_all
 have run:∀(vs:List zO),fn.results.toList.mapM (lE E st)=some vs→∃rs:List Value,(results fn a.tmps).run E.P w=.ok (if h:rs.length=1 then rs[0] else .tuple rs.toArray) w∧zG (zK M) vs rs:=fun vs h=>by
  obtain⟨rs,k1,k2⟩:=key _ vs h;refine⟨rs,?_,k2⟩;rw[yCd,Array.mapM_eq_mapM_toList];simp_all
 unfold zj at h;split at h
 ·cases h;obtain⟨rs,k1,k2⟩:=run [] (by simp_all);cases rs with
  |cons _ _=>exact k2.elim
  |nil=>exact⟨_,k1,#[],rfl,trivial⟩
 ·obtain⟨rs,k1,k2⟩:=run [v] (by simp_all)
  match rs,k2 with
  |[r],k2=>exact⟨_,k1,k2.1⟩
 ·split at h
  ·rename_i xs uK;cases h;obtain⟨vs,k1,k2⟩:=P3 _ _ uK;obtain⟨rs,r1,r2⟩:=run vs k1;have hlen:rs.length≠1:=fun e=>by
    have e1:=r2.length;have e2:=(uI _ _ _ k1).length;have h3:fn.results.toList.length=1:=by omega
    match hl:fn.results.toList,h3 with
    |[x],_=>simp_all
   rw[dif_neg hlen] at r1;exact⟨_,r1,rs.toArray,rfl,P2 (uI _ _ _ k2) r2⟩
  ·cases h
theorem FQ (hE:wC E)(hS:jQ E.sums)(hm:E.P.follows .mixedOrders=true){f fn}(hf:E.P.funcs[f]? =some fn)(hL:∀c,fn.body=some c→yS E.P A pre na fn.ntmps c){args h K}(aF:dV E A k pre na fn args h K=some out){M w vs}(hh:M.h=h)(hH:M.H=w.heap)(ok:Ok M)
  (hv:zG (zK M) args vs.toList):Calls E.P f vs w fun
   |.returned rv,w'=>∃(M':zE) (v:zO) (st:St),K v st=some out∧M'.h=st.h∧M'.H=w'.heap∧Ok M'∧jB M M'∧(A.loops=[]→Ap M M')∧zK M' v rv∧w'.os=w.os∧w'.tape=w.tape∧w'.output=w.output∧
     (∀t,t<na→zK M' (st.t t) (vs.getD t undef))
   |_,_=>False:=by
 unfold dV at aF;cases hb:fn.body with
 |none=>simp_all
 |some c=>
  rw[hb] at aF;dsimp only at aF;cases hle:Nat.ble args.length fn.ntmps with
  |false=>simp_all
  |true=>
   rw[hle] at aF;rw[cond_true] at aF;have hl:=hv.length;have hle:args.length≤fn.ntmps:=Nat.le_of_ble_eq_true hle;have bZ:vs.size≤fn.ntmps:=by simp at hl;omega
   have uW:∀t,zK M (zk args t) ((vs++Array.replicate (fn.ntmps-vs.size) undef).getD t undef):=fun t=>by
    unfold zk;by_cases ht:t<args.length
    ·have FR:t<vs.size:=by simp at hl;omega
     have:=hv.get t ht (by simpa using FR);simp only[List.getD_eq_getElem?_getD,List.getElem?_eq_getElem ht,Option.getD_some];simp only[Array.getD_eq_getD_getElem?,Array.getElem?_append_left FR,Array.getElem?_eq_getElem FR,Option.getD_some]
     simpa using this
    ·simp only[List.getD_eq_getElem?_getD,List.getElem?_eq_none (Nat.not_lt.1 ht),Option.getD_none];show _=undef;simp;grind
   have r:yD A.loops.isEmpty na fn.ntmps (fun t=>(vs++Array.replicate (fn.ntmps-vs.size) undef).getD t undef) M w {t:=zk args,h:=h} {tmps:=vs++Array.replicate (fn.ntmps-vs.size) undef,defers:=[]} w:=
    ⟨⟨M,hh,hH,ok,⟨.refl M,fun _ _ C h=>⟨C,h,rfl⟩⟩,uW⟩,rfl,by simp;omega,rfl,rfl,rfl,fun _ _=>rfl⟩
   refine calls_of_wp hf hb (PZ hE hS hm (by simp) c (hL c hb) _ _ _ _ _ aF r fun e bc a' w' r' hK=>?_);obtain⟨M',q1,q2,q3,q4,q5⟩:=r'.ex;have fin:∀v,zj E fn bc=some v→K v bc=some out→a'.defers=[]∧∃rv,(results fn a'.tmps).run E.P w'=.ok rv w'∧∃(M':zE) (v:zO) (st:St),K v st=some out∧M'.h=st.h∧M'.H=w'.heap∧Ok M'∧jB M M'∧(A.loops=[]→Ap M M')∧zK M' v rv∧w'.os=w.os∧w'.tape=w.tape∧w'.output=w.output∧
     (∀t,t<na→zK M' (st.t t) (vs.getD t undef)):=fun v gP hK=>by
    obtain⟨rv,k1,k2⟩:=yG6 hE hS hm q1 q2 q3 q5 gP;refine⟨r'.defers,rv,k1,M',v,bc,hK,q1,q2,q3,q4.g,fun h=>q4.k (by grind),k2,r'.os,r'.tape,r'.output,fun t ht=>?_⟩;have:=q5 t;rw[r'.keep t ht] at this;have e:(vs++Array.replicate (fn.ntmps-vs.size) undef).getD t undef=vs.getD t undef:=by
     by_cases h1:t<vs.size
     ·simp[Array.getD_eq_getD_getElem?,Array.getElem?_append_left h1]
     ·simp;grind
    simp_all
   cases e with
   |exit id=>cases hK
   |normal=>
    dsimp only at hK;split at hK
    ·rename_i v gP;exact fin v gP hK
    ·cases hK
   |ret=>
    dsimp only at hK;split at hK
    ·rename_i v gP;exact fin v gP hK
    ·cases hK
end
inductive PC where
 |int (k:IntKind)|bool|dat (sh:Bool) (t:Ty)|fn (f:Nat)
 |nil|nilp
abbrev PC.den:PC→Type
 |.int _=>Int|.bool=>Bool|.dat _ t=>List t.den|.fn _=>Unit|.nil=>Unit|.nilp=>Unit
abbrev PL:List PC→Type
 |[]=>Unit
 |p::l=>p.den×PL l
inductive AS where
 |c (p:PC)|agg (l:List PC)|ptr (l:List PC)|fn (f:Nat) (aT:List (List PC))
def AS.cells:AS→List PC
 |.c p=>[p]
 |.agg l=>l
 |.ptr l=>l
 |.fn _ aT=>aT.flatten
abbrev AD (l:List AS):Type:=PL (l.flatMap AS.cells)
def n9 (h:Hp)(t:Ty):zN→Option (List t.den)
 |.nsl=>some []
 |c=>match jM h c with
  |some ⟨s,xs⟩=>wG s t xs
  |none=>none
def kH (h:Hp):(p:PC)→zN→Option p.den
 |.int k,.int j n=>bif vY j k then some n else none
 |.bool,.bool b=>some b
 |.dat false t,c=>n9 h t c
 |.dat true t,.fsl true s xs=>wG s t xs
 |.dat true t,.nsl=>some []
 |.fn f,.fn g []=>bif Nat.beq f g then some () else none
 |.nil,.nsl=>some ()
 |.nilp,.nilp=>some ()
 |_,_=>none
def oc (h:Hp):(l:List PC)→List zN→Option (PL l)
 |[],[]=>some ()
 |p::l,c::cs=>match kH h p c,oc h l cs with
  |some d,some ds=>some (d,ds)
  |_,_=>none
 |_,_=>none
def rA (h:Hp)(id:Nat):Option (List zN):=match h id with
 |some (.box _ cells)=>some cells
 |some (.robox cells)=>some cells
 |_=>none
def kI (h:Hp):List (List PC)→List Nat→Option (List zN)
 |[],[]=>some []
 |l::ls,id::ids=>match rA h id,kI h ls ids with
  |some cells,some rest=>bif Nat.beq cells.length l.length then some (cells++rest) else none
  |_,_=>none
 |_,_=>none
def AS.get (h:Hp):AS→zO→Option (List zN)
 |.c _,.c x=>some [x]
 |.agg l,.agg xs=>bif Nat.beq xs.length l.length then some xs else none
 |.ptr l,.c (.ptr id 0)=>kI h [l] [id]
 |.fn f aT,.c (.fn g ids)=>bif Nat.beq f g then kI h aT ids else none
 |_,_=>none
def iV (h:Hp):List AS→List zO→Option (List zN)
 |[],[]=>some []
 |s::l,a::as=>match s.get h a,iV h l as with
  |some cs,some rest=>some (cs++rest)
  |_,_=>none
 |_,_=>none
def od (h:Hp) l (as:List zO):Option (AD l):=match iV h l as with
 |some cs=>oc h (l.flatMap AS.cells) cs
 |none=>none
def rC:(p:PC)→p.den→zN
 |.int k,n=>.int k n
 |.bool,b=>.bool b
 |.dat sh t,xs=>.fsl sh t xs
 |.fn f,_=>.fn f []
 |.nil,_=>.nsl
 |.nilp,_=>.nilp
def yG:(l:List PC)→PL l→List zN
 |[],_=>[]
 |p::l,d=>rC p d.1::yG l d.2
def Az:List (List PC)→List zN→List (List zN)
 |[],_=>[]
 |l::ls,cs=>cs.take l.length::Az ls (cs.drop l.length)
def AS.mk (n:Nat)(cs:List zN):AS→zO
 |.c _=>match cs with|x::_=>.c x|[]=>.undef
 |.agg _=>.agg cs
 |.ptr _=>.c (.ptr n 0)
 |.fn f aT=>.c (.fn f ((List.range aT.length).map (n+·)))
def AS.boxes (cs:List zN):AS→List (List zN)
 |.ptr _=>[cs]
 |.fn _ aT=>Az aT cs
 |_=>[]
def eD:List AS→List zN→Nat→List zO×List (List zN)
 |[],_,_=>([],[])
 |s::l,cs,n=>
  let ah:=cs.take s.cells.length;let bs:=s.boxes ah;let rest:=eD l (cs.drop s.cells.length) (n+bs.length)
  (s.mk n ah::rest.1,bs++rest.2)
def eE (bs:List (List zN)):Hp:=fun n=>match bs[n]? with
 |some cells=>some (.robox cells)
 |none=>none
def gQ l (d:AD l):List zO×Hp:=
 let r:=eD l (yG (l.flatMap AS.cells) d) 0
 (r.1,eE r.2)
inductive RC where
 |int (k:IntKind)|bool|fro (t:Ty)|own (t:Ty)|mat
 |jun
 |map
 |nilp|link (j:Nat)|nil
abbrev RC.den:RC→Type
 |.int _=>Int|.bool=>Bool|.fro t=>List t.den|.own t=>List t.den|.mat=>List (List Int)|.jun=>Nat|.map=>List (Int×Bool)|.nilp=>Unit|.link _=>Unit|.nil=>Unit
abbrev RL:List RC→Type
 |[]=>Unit
 |r::l=>r.den×RL l
inductive RS where
 |c (r:RC)|agg (l:List RC)|tup (l:List (Bool×List RC))
def RS.cells:RS→List RC
 |.c r=>[r]
 |.agg l=>l
 |.tup l=>l.flatMap (·.2)
def FT:List (Bool×List RC)→List (Bool×List zN)→Option (List zN)
 |[],[]=>some []
 | (b, l) :: ls, (g, cs) :: rest => bif (bif b then g else !g && Nat.beq cs.length 1) && Nat.beq cs.length l.length then (match FT ls rest with
   |some r=>some (cs++r)
   |none=>none) else none
 |_,_=>none
def RS.get:RS→zO→Option (List zN)
 |.c _,.c x=>some [x]
 |.agg l,.agg xs=>bif Nat.beq xs.length l.length then some xs else none
 |.tup l,.tup xs=>FT l xs
 |_,_=>none
def FU:List (Bool×List RC)→List zN→List (Bool×List zN)
 |[],_=>[]
 |(b,l)::ls,cs=>(b,cs.take l.length)::FU ls (cs.drop l.length)
def RS.mk (cs:List zN):RS→zO
 |.c _=>match cs with|x::_=>.c x|[]=>.undef
 |.agg _=>.agg cs
 |.tup l=>.tup (FU l cs)
def vV (h:Hp):List Bool→List zN→Option (List zN×qV)
 |true::l,c::cs=>match fQ h c,vV h l cs with
  |some (c,u),some (cs,us)=>some (c::cs,u++us)
  |_,_=>none
 |false::l,c::cs=>match vV h l cs with
  |some (cs,us)=>some (c::cs,us)
  |none=>none
 |_,cs=>some (cs,[])
def RC.isFro:RC→Bool
 |.fro _=>true
 |_=>false
def PC.isKept:PC→Bool
 |.dat true _=>true
 |_=>false
def gT (h:Hp):(r:RC)→zN→Option r.den
 |.int k,.int j n=>bif vY j k then some n else none
 |.bool,.bool b=>some b
 |.fro t,.fsl true s xs=>wG s t xs
 |.fro t,.nsl=>some []
 |.own t,.osl id none=>match h id with
  |some (.arr true s xs)=>wG s t xs
  |_=>none
 |.own t,.osl id (some (0,n))=>match h id with
  |some (.arr true s xs)=>wG s t (xs.take n)
  |_=>none
 |.own t,.nsl=>some []
 |.mat,.osl id none=>match h id with
  |some (.mat _ xs)=>some xs
  |some (.pmat _ xs n)=>bif Nat.beq xs.length n then some xs else none
  |_=>none
 |.mat,.nsl=>some []
 |.jun,.osl id none=>match h id with
  |some (.arr true (.sl (.int .i64)) xs)=>some xs.length
  |_=>none
 |.jun,.nsl=>some 0
 |.map,.map id=>match h id with
  |some (.imap bQ)=>some bQ
  |_=>none
 |.nilp,.nilp=>some ()
 |.link _,.ptr _ 0=>some ()
 |.nil,.nsl=>some ()
 |_,_=>none
def jP (h:Hp):(l:List RC)→List zN→Option (RL l)
 |[],[]=>some ()
 |r::l,c::cs=>match gT h r c,jP h l cs with
  |some d,some ds=>some (d,ds)
  |_,_=>none
 |_,_=>none
def yJ:List RC→List zN→List Nat
 |.own _::l,.osl id _::cs=>id::yJ l cs
 |.mat::l,.osl id _::cs=>id::yJ l cs
 |.jun::l,.osl id _::cs=>id::yJ l cs
 |.map::l,.map id::cs=>id::yJ l cs
 |_::l,_::cs=>yJ l cs
 |_,_=>[]
def uX (h:Hp)(s:RS)(v:zO):Option (RL s.cells):=match s.get v with
 |some cs=>match vV h (s.cells.map RC.isFro) cs with
  |some (cs,u)=>bif kf (yJ s.cells cs) then jP (zX h u) s.cells cs else none
  |none=>none
 |none=>none
def fb (rs:RS){X:Type}(unpack:RL rs.cells→X)(v:zO)(st:St):Option X:=match uX st.h rs v with
 |some d=>some (unpack d)
 |none=>none
def iW (nm:Nat):(r:RC)→r.den→zN×qV
 |.int k,n=>(.int k n,[])
 |.bool,b=>(.bool b,[])
 |.fro t,xs=>(.fsl true t xs,[])
 |.own t,xs=>(.osl nm none,[(nm,.arr true t xs)])
 |.mat,xs=>(.osl nm none,[(nm,.mat 0 xs)])
 |.jun,n=>(.osl nm none,[(nm,.pmat 0 [] n)])
 |.map,bQ=>(.map nm,[(nm,.imap bQ)])
 |.nilp,_=>(.nilp,[])
 |.link _,_=>(.undef,[])
 |.nil,_=>(.nsl,[])
def ga (nm:Nat):(l:List RC)→RL l→List zN×qV
 |[],_=>([],[])
 |r::l,d=>
  let x:=iW nm r d.1;let y:=ga (nm+1) l d.2
  (x.1::y.1,x.2++y.2)
def P4 (nm:Nat)(s:RS)(d:RL s.cells):zO×qV:=
 let r:=ga nm s.cells d
 (s.mk r.1,r.2)
def lS (h:Hp):Nat→Nat→Bool
 |_,0=>true
 |nm,n+1=>(match h nm with|none=>true|some _=>false)&&lS h (nm+1) n
def lT (h:Hp):AS→zO→Option (zO×qV)
 |.c p,.c x=>match vV h [p.isKept] [x] with
  |some ([x],u)=>some (.c x,u)
  |_=>none
 |.agg l,.agg xs=>match vV h (l.map PC.isKept) xs with
  |some (xs,u)=>some (.agg xs,u)
  |none=>none
 |_,a=>some (a,[])
def iX (h:Hp):List AS→List zO→Option (List zO×qV)
 |s::l,a::as=>match lT h s a,iX h l as with
  |some (a,u),some (as,us)=>some (a::as,u++us)
  |_,_=>none
 |_,as=>some (as,[])
def gb as (rs:RS){X}(S:AD as→Option X)(pack:X→RL rs.cells)(nm:Nat)(args:List zO)(h:Hp):qQ:=
 match iX h as args with
 |none=>.stuck
 |some (args,u)=>match od (zX h u) as args with
  |some d=>bif lS h nm rs.cells.length&&Nat.ble rs.cells.length 100 then .call X (S d) (fun r=>((P4 nm rs (pack r)).1,u++(P4 nm rs (pack r)).2)) else .stuck
  |none=>.stuck
structure Lo (M Ml:zE):Prop where
 H:Ml.H=M.H
 F:Ml.F=fun b=>b<M.H.size
 G:Ml.G=M.G
theorem FV {M M':zE}(ok:Ok M')(hH:M'.H=M.H){t}{xs:List t.den}{v}(h:zT M'.H M'.G (.sl t) xs (fun _=>some v)):zT M.H (fun b=>b<M.H.size) (.sl t) xs (fun _=>some v):=by
 refine qS (fun b hb=>?_) (by grind) _ _ _ _ (by simp) h;have:=ok.Flt b (ok.GF b hb);simp_all
theorem yIq {M}(ok:Ok M){c v t xs}(hv:zM M c v)(h:jM M.h c=some ⟨t,xs⟩):zT M.H (fun b=>b<M.H.size) (.sl t) xs (fun _=>some v):=by
 unfold jM at h;split at h
 ·rename_i sh s ys;cases h;cases sh with
  |true=>exact qS (fun b hb=>ok.Flt b (ok.GF b hb)) (by simp) _ _ _ _ (fun _ _=>rfl) hv
  |false=>exact qS (fun b hb=>ok.Flt b hb) (by simp) _ _ _ _ (fun _ _=>rfl) hv
 ·rename_i id r;split at h
  ·rename_i own s ys ab;cases h;cases own with
   |false=>
    obtain⟨C,hC,hO⟩:=ok.obj _ _ ab;exact FV ok rfl (ny hC hO hv)
   |true=>
    obtain⟨M',h1,h2,h3,h4⟩:=N9 ok ab;obtain⟨C,hC,hO⟩:=h3.obj id _ (by rw[h2];exact qM _ _ _);exact FV h3 h1 (ny hC hO (hv.ext h4.ext))
  ·rename_i ver ys ab;cases r with
   |some p=>cases h
   |none=>
    cases h;obtain⟨M',h1,h2,h3,h4⟩:=Ob ok ab;obtain⟨C,hC,hO⟩:=h3.obj id _ (by rw[h2];exact qM _ _ _);exact FV h3 h1 (ny (r:=none) hC hO (hv.ext h4.ext))
  ·cases h
 ·rename_i id i ver;split at h
  ·rename_i v' ys ab;cases cJ:Nat.beq v' ver with
   |false=>simp_all
   |true=>
    rw[cJ] at h;cases h;have e:v'=ver:=by simpa using cJ
    subst e;obtain⟨C,hC,hO⟩:=ok.obj _ _ ab;obtain⟨C',aj,bC,_,aO⟩:=hv;rw[hC] at aj;cases aj;obtain⟨rb,rl,nP,iR⟩:=aO hO.1;by_cases hi:i<ys.length
    ·obtain⟨B,gI,v2,k1,k2,k3,k4,k5,k6⟩:=qh hO hi;rw[nP] at k3;cases k3;rw[show ys.getD i []=ys[i] by simp_all];simp only[zT];cases rb with
     |none=>
      obtain⟨rfl,h0⟩:=iR;grind
     |some R=>
      obtain⟨a,c,rfl,h1,h2,h3⟩:=iR;refine⟨_,_,c,rfl,rfl,h1,?_⟩;by_cases h0:ys[i].length=0
      ·simp_all
      ·have ha:a=0:=by omega
       subst ha;refine .inr ⟨R,0,rfl,?_,fun j hj=>?_⟩
       ·have:=k6 R rfl 0 (by omega);unfold qO at this;grind
       ·simp only[Ty.size];simp_all
    ·have:C.rows[i]? =none:=List.getElem?_eq_none (by have:=hO.2.2.2.1;omega);simp_all
  ·cases h
 ·cases h
theorem uY {H F t}:zT H F (.sl t) ([]:List t.den) (fun _=>some (.slice none 0 0)):=⟨none,0,0,rfl,rfl,by simp,by simp⟩
theorem yNa {M}(ok:Ok M){c v t xs}(hv:zM M c v)(h:n9 M.h t c=some xs):zT M.H (fun b=>b<M.H.size) (.sl t) xs (fun _=>some v):=by
 unfold n9 at h;split at h
 ·cases h;rw[show v=.slice none 0 0 from hv];exact uY
 ·split at h
  ·rename_i s ys hr;obtain⟨e,hx⟩:=dM h;subst e;subst hx;exact yIq ok hv hr
  ·cases h
def Tr (M:zE)(c c':zN):Prop:=∀v Ml,Lo M Ml→zM M c v→zM Ml c' v
theorem yEt {M}(ok:Ok M){p c d}(h:kH M.h p c=some d):Tr M c (rC p d):=by
 intro v Ml lo hv;unfold kH at h;split at h
 ·rename_i k j n;cases e:vY j k with
  |false=>simp_all
  |true=>rw[e] at h;cases h;rw[←ka e];exact hv
 ·cases h;exact hv
 ·have:=yNa ok hv h;show zT Ml.H Ml.F _ _ _;rw[lo.H,lo.F];omega
 ·obtain⟨e,hx⟩:=dM h;subst e;subst hx;show zT Ml.H Ml.G _ _ _;rw[lo.H,lo.G];exact hv
 ·cases h;rw[show v=.slice none 0 0 from hv];exact uY
 ·rename_i f g;cases e:Nat.beq f g with
  |false=>simp_all
  |true=>
   have:f=g:=by simp_all
   subst this;obtain⟨cv,rfl,hc⟩:=hv;refine⟨cv,rfl,?_⟩;generalize cv.toList=l at hc;cases l with
   |nil=>trivial
   |cons _ _=>exact hc.elim
 ·exact hv
 ·exact hv
 ·cases h
theorem P5 {M}(ok:Ok M):∀{l cs d},oc M.h l cs=some d→zG (Tr M) cs (yG l d)
 |[],[],_,_=>trivial
 |p::l,c::cs,d,h=>by
  unfold oc at h;split at h
  ·rename_i x xs h1 h2;cases h;exact⟨yEt ok h1,P5 ok h2⟩
  ·cases h
theorem FW {M Ml}(lo:Lo M Ml):∀{cs ay vs},zG (Tr M) cs ay→zG (zM M) cs vs→zG (zM Ml) ay vs
 |[],[],[],_,_=>trivial
 |_::_,_::_,_::_,h,k=>⟨h.1 _ _ lo k.1,FW lo h.2 k.2⟩
def lU (M:zE)(C:zS)(cells:List zN):Prop:=∃B vals e,C.blk=some B∧C.rows=[]∧M.H[B]? =some (.cells vals e (0,0))∧zG (zM M) cells vals.toList
theorem P6 {M}(ok:Ok M){id cells}(h:rA M.h id=some cells):∃C,M.κ id=some C∧lU M C cells:=by
 unfold rA at h;split at h
 ·rename_i own cs ab;cases h;obtain⟨C,hC,B,vals,e,h1,h2,h3,h4,_⟩:=ok.obj id _ ab;exact⟨C,hC,B,vals,e,h1,h2,h3,h4⟩
 ·rename_i cs ab;cases h;obtain⟨C,hC,B,vals,e,h1,h2,h3,h4,_⟩:=ok.obj id _ ab;exact⟨C,hC,B,vals,e,h1,h2,h3,h4⟩
 ·cases h
theorem lU.tr {M Ml}(lo:Lo M Ml){C cs ay}(h:lU M C cs)(ht:zG (Tr M) cs ay):lU Ml C ay:=by
 obtain⟨B,vals,e,h1,h2,h3,h4⟩:=h;exact⟨B,vals,e,h1,h2,by rw[lo.H];exact h3,FW lo ht h4⟩
theorem FX {M}(ok:Ok M):∀{ls ids cs ay},kI M.h ls ids=some cs→zG (Tr M) cs ay→cs.length=ls.flatten.length∧ids.length=ls.length∧
  ∃Cs:List zS,zG (fun id C=>M.κ id=some C) ids Cs∧∀Ml,Lo M Ml→zG (lU Ml) Cs (Az ls ay)
 |[],[],cs,ay,h,ht=>by cases h;exact⟨rfl,rfl,[],trivial,fun _ _=>trivial⟩
 |l::ls,id::ids,cs,ay,h,ht=>by
  unfold kI at h;split at h
  ·rename_i cells rest h1 h2;obtain⟨hl,h⟩:cells.length=l.length∧cells++rest=cs:=by
    cases e:Nat.beq cells.length l.length with
    |false=>simp_all
    |true=>simp_all
   subst h;have gd:=zG.take l.length ht;have fF:=zG.drop l.length ht;rw[←hl,List.take_left] at gd;rw[←hl,List.drop_left] at fF;obtain⟨C,hC,hB⟩:=P6 ok h1;obtain⟨k1,k2,Cs,k3,k4⟩:=FX ok h2 fF;refine⟨by simp_all,by simp[k2],C::Cs,⟨hC,k3⟩,fun Ml lo=>⟨?_,?_⟩⟩
   ·rw[←hl];exact hB.tr lo gd
   simp_all
  ·cases h
theorem yJk {M}(ok:Ok M){s:AS}{a v cs ay n}(hv:zK M a v)(h:s.get M.h a=some cs)(ht:zG (Tr M) cs ay):
  ∃Cs:List zS,(∀Ml,Lo M Ml→zG (lU Ml) Cs (s.boxes ay))∧(∀Ml,Lo M Ml→(∀i C,Cs[i]? =some C→Ml.κ (n+i)=some C)→zK Ml (s.mk n ay) v):=by
 unfold AS.get at h;split at h
 ·cases h
  match ay,ht with
  |[c'],ht=>exact⟨[],fun _ _=>trivial,fun Ml lo _=>ht.1 v Ml lo hv⟩
 ·rename_i l xs;cases e:Nat.beq xs.length l.length with
  |false=>simp_all
  |true=>
   rw[e] at h;cases h;obtain⟨vs,rfl,hx⟩:=hv;exact⟨[],fun _ _=>trivial,fun Ml lo _=>⟨vs,rfl,FW lo ht hx⟩⟩
 ·rename_i l id;have:=FX ok h ht;obtain⟨k1,k2,Cs,k3,k4⟩:=this;obtain⟨C,B,hC,hB,e⟩:=hv;have hl:ay.length=l.length:=by rw[←ht.length,k1];simp
  match Cs,k3 with
  |[C'],k3=>
   have e':C'=C:=by
    have:M.κ id=some C':=k3.1;simp_all
   subst e';refine⟨[C'],fun Ml lo=>?_,fun Ml lo hκ=>⟨C',B,hκ 0 C' rfl,hB,e⟩⟩;have:=k4 Ml lo;simp[Az] at this;rw[List.take_of_length_le (by omega)] at this;exact this
 ·rename_i f aT g ids;cases e:Nat.beq f g with
  |false=>simp_all
  |true=>
   rw[e] at h;have FY:f=g:=by simp_all
   subst FY;obtain⟨k1,k2,Cs,k3,k4⟩:=FX ok h ht;refine⟨Cs,k4,fun Ml lo hκ=>?_⟩;obtain⟨cv,rfl,hc⟩:=hv;refine⟨cv,rfl,?_⟩;have l1:=k3.length;have l2:=hc.length;refine zG.of_get (by simp_all) fun i h1 h2=>?_
   simp;have hi:i<ids.length:=by omega
   have bU:i<Cs.length:=by omega
   obtain⟨C,B,q1,q2,q3⟩:=hc.get i hi h2;have q4:=k3.get i hi bU;simp_all
 ·cases h
theorem FZ {h}:∀{ls ids cs},kI h ls ids=some cs→cs.length=ls.flatten.length
 |[],[],cs,e=>by cases e;rfl
 |l::ls,id::ids,cs,e=>by
  unfold kI at e;split at e
  ·rename_i cells rest h1 h2;cases el:Nat.beq cells.length l.length with
   |false=>simp_all
   |true=>
    rw[el] at e;cases e;have:cells.length=l.length:=by simp_all
    simp[this,FZ h2]
  ·cases e
theorem yE4 {h}{s:AS}{a cs}(e:s.get h a=some cs):cs.length=s.cells.length:=by
 unfold AS.get at e;split at e
 ·cases e;rfl
 ·rename_i l xs;cases el:Nat.beq xs.length l.length with
  |false=>simp_all
  |true=>rw[el] at e;cases e;exact Nat.eq_of_beq_eq_true el
 ·rw[FZ e];simp[AS.cells]
 ·rename_i f aT g ids;cases el:Nat.beq f g with
  |false=>simp_all
  |true=>rw[el] at e;exact FZ e
 ·cases e
theorem P7 {M}(ok:Ok M):∀{l as vs cs ay n},zG (zK M) as vs→iV M.h l as=some cs→zG (Tr M) cs ay→
  ∃Cs:List zS,(∀Ml,Lo M Ml→zG (lU Ml) Cs (eD l ay n).2)∧(∀Ml,Lo M Ml→(∀i C,Cs[i]? =some C→Ml.κ (n+i)=some C)→zG (zK Ml) (eD l ay n).1 vs)
 |[],[],[],cs,ay,n,_,_,_=>⟨[],fun _ _=>trivial,fun _ _ _=>trivial⟩
 |s::l,a::as,v::vs,cs,ay,n,hv,h,ht=>by
  unfold iV at h;split at h
  ·rename_i eX rest h1 h2;cases h;have hl:=yE4 h1;have gd:=zG.take s.cells.length ht;have fF:=zG.drop s.cells.length ht;rw[←hl,List.take_left,hl] at gd;rw[←hl,List.drop_left,hl] at fF;obtain⟨C1,k1,k2⟩:=yJk ok (n:=n) hv.1 h1 gd;obtain⟨C2,k3,k4⟩:=P7 ok (n:=n+(s.boxes (ay.take s.cells.length)).length) hv.2 h2 fF;refine⟨C1++C2,fun Ml lo=>(k1 Ml lo).append (k3 Ml lo),fun Ml lo hκ=>⟨k2 Ml lo fun i C hi=>hκ i C ?_,k4 Ml lo fun i C hi=>?_⟩⟩
   ·grind
   ·have hb:=(k1 Ml lo).length;have:=hκ (C1.length+i) C (by grind);grind
  ·cases h
def zE.below (M:zE)(Cs:List zS)(bs:List (List zN)):zE:={κ:=fun n=>Cs[n]?,F:=fun b=>b<M.H.size,G:=M.G,h:=eE bs,H:=M.H}
theorem zE.below_lo M Cs bs:Lo M (M.below Cs bs):=⟨rfl,rfl,rfl⟩
theorem zE.below_ok {M}(ok:Ok M){Cs bs}(h:zG (lU (M.below Cs bs)) Cs bs):Ok (M.below Cs bs)∧∀b,¬qC (M.below Cs bs) b:=by
 have hr:∀id o,(M.below Cs bs).h id=some o→∃cells,bs[id]? =some cells∧o=.robox cells:=fun id o e=>by
  have e:eE bs id=some o:=e;unfold eE at e;grind
 have P8:∀b,¬qC (M.below Cs bs) b:=fun b ⟨id,o,C,h1,h2,_,_⟩=>by
  obtain⟨cells,_,rfl⟩:=hr id o h1;cases h2
 refine⟨⟨fun id o e=>?_,fun id e=>?_,fun i j oi oj Ci Cj b _ h1 _ h3 _ _ _ _ _=>?_,by grind,fun b hb=>ok.Flt b (ok.GF b hb),fun b hb=>hb⟩,P8⟩
 ·obtain⟨cells,hc,rfl⟩:=hr id o e;have aS:id<bs.length:=by
   grind
  have dA:id<Cs.length:=by rw[h.length];omega
  obtain⟨B,vals,ev,q1,q2,q3,q4⟩:=h.get id dA aS;rw[List.getElem?_eq_getElem aS] at hc;cases hc;refine⟨Cs[id],List.getElem?_eq_getElem dA,B,vals,ev,q1,q2,q3,q4,?_⟩;exact(Array.getElem?_eq_some_iff.1 q3).1
 ·have e:eE bs id=none:=e;unfold eE at e;split at e
  ·cases e
  ·rename_i hc;show Cs[id]? =none;rw[List.getElem?_eq_none_iff] at hc⊢;rw[h.length];exact hc
 ·obtain⟨cells,_,rfl⟩:=hr i oi h1;cases h3
theorem yNe {M}(ok:Ok M){l as vs d}(hv:zG (zK M) as vs)(h:od M.h l as=some d):
  ∃Ml:zE,Lo M Ml∧Ml.h=(gQ l d).2∧Ok Ml∧(∀b,¬qC Ml b)∧zG (zK Ml) (gQ l d).1 vs:=by
 unfold od at h;split at h
 ·rename_i cs hg;obtain⟨Cs,h1,h2⟩:=P7 ok (n:=0) hv hg (P5 ok h);have lo:=M.below_lo Cs (eD l (yG (l.flatMap AS.cells) d) 0).2;have:=zE.below_ok ok (h1 _ lo);exact⟨_,lo,rfl,this.1,this.2,h2 _ lo fun i C hi=>by rw[Nat.zero_add];exact hi⟩
 ·cases h
theorem lV {h0}:∀{l cs ay vs u M},Ok M→yX h0 M.h→zG (zM M) cs vs→vV h0 l cs=some (ay,u)→
  ∃L:zE,L.H=M.H∧L.h=zX M.h u∧Ok L∧qU M L∧zG (zM L) ay vs∧yX h0 L.h
 |[],cs,ay,vs,u,M,ok,hf,hc,h=>by
  cases cs<;>cases h<;>exact⟨M,rfl,rfl,ok,.refl M,hc,hf⟩
 |true::l,[],ay,vs,u,M,ok,hf,hc,h
 |false::l,[],ay,vs,u,M,ok,hf,hc,h=>by cases h;exact⟨M,rfl,rfl,ok,.refl M,hc,hf⟩
 |true::l,c::cs,ay,v::vs,u,M,ok,hf,hc,h=>by
  unfold vV at h;split at h
  ·rename_i c1 u1 eX iK e1 e2;cases h;obtain⟨M1,h1,h2,h3,h4,h5,h6,_⟩:=uc ok hf hc.1 e1;obtain⟨M2,k1,k2,k3,k4,k5,k6⟩:=lV h3 h6 (hc.2.mono fun _ _ h=>h.ext h4.ext) e2;exact⟨M2,k1.trans h1,by rw[k2,h2,jZ],k3,h4.trans k4,⟨h5.ext k4.ext,k5⟩,k6⟩
  ·cases h
 |false::l,c::cs,ay,v::vs,u,M,ok,hf,hc,h=>by
  unfold vV at h;split at h
  ·rename_i eX iK e2;cases h;obtain⟨M2,k1,k2,k3,k4,k5,k6⟩:=lV ok hf hc.2 e2;exact⟨M2,k1,k2,k3,k4,⟨hc.1.ext k4.ext,k5⟩,k6⟩
  ·cases h
def zE.add (M:zE)(nm:Nat)(o:Obj)(C:zS):zE:={M with κ:=κset M.κ nm C,h:=qH M.h nm o}
theorem zE.add_ok {M}(ok:Ok M){nm}(aC:M.h nm=none){o C}(hO:qR (M.add nm o C) o C)(hb:∀b∈C.fp,¬qC M b∧¬M.F b∧b<M.H.size):
  Ok (M.add nm o C)∧qK M (M.add nm o C)∧(∀b,qC (M.add nm o C) b→qC M b∨b∈C.fp):=by
 have x:qK M (M.add nm o C):=⟨fun id D h=>by
  have ba:id≠nm:=fun e=>by rw[e,ok.non nm aC] at h;cases h
  exact⟨D,by show κset M.κ nm _ id=_;rw[κset_ne _ _ ba];exact h,D.le_refl⟩,fun _ h=>h,fun _ h=>h,fun _ _=>rfl,fun _ _=>rfl,fun _ _=>rfl⟩
 refine⟨Ok.build ok x (fun id=>id=nm) (fun id h=>qN _ _ h) (fun id h=>κset_ne _ _ h) (fun _ _ _ _ _ _ _ _ _=>rfl) (fun id o' D h1 h2 h3 h4 b bn=>(ok.own b ⟨id,o',D,h2,h3,h4,bn⟩).1) (Nat.le_refl _)
  (fun id o' e h=>?_) (fun id e h=>?_) (fun id o' D b e h1 h2 h3 h4=>?_) ok.GF ok.Flt,x,fun b bn=>?_⟩
 ·subst e;have e1:(M.add id o C).h id=some o:=qM _ _ _;rw[e1] at h;cases h;exact⟨_,κset_same _ _ _,hO⟩
 ·have e1:(M.add id o C).h id=some o:=qM _ _ _;simp_all
 ·subst e;have e1:(M.add id o C).κ id=some C:=κset_same _ _ _;rw[e1] at h3;cases h3;obtain⟨k1,k2,k3⟩:=hb b h4;refine⟨fun j oj Cj hj q1 q2 q3 q4=>k1 ⟨j,oj,Cj,?_,q2,?_,q4⟩,k2,k3⟩
  ·rw[←q1];exact(qN _ _ hj).symm
  ·rw[←q3];exact(κset_ne _ _ hj).symm
 ·obtain⟨id,o',D,h1,h2,h3,h4⟩:=bn;by_cases e:id=nm
  ·have e1:(M.add id o C).κ id=some C:=κset_same _ _ _;simp_all
  ·exact .inl ⟨id,o',D,by rw[←h1];exact(qN _ _ e).symm,h2,by rw[←h3];exact(κset_ne _ _ e).symm,h4⟩
structure Up (L Mc:zE):Prop where
 H:Mc.H=L.H
 G:Mc.G=L.G
theorem P9 {L Mc}(up:Up L Mc){t xs C}(h:qR L (.arr true t xs) C):qR Mc (.arr true t xs) C:=by
 obtain⟨h1,h2,h3,h4⟩:=h;refine⟨h1,h2,h3,?_⟩;rw[up.H,up.G];exact h4
theorem yJo {L Mc}(up:Up L Mc){ver xs C}(h:qR L (.mat ver xs) C):qR Mc (.mat 0 xs) {C with ver:=0}:=by
 obtain⟨h1,h2⟩:=h;refine⟨rfl,?_⟩;rw[up.H];exact h2
theorem yIl {L Mc}(up:Up L Mc){ver n xs C}(h:qR L (.pmat ver xs n) C)(hn:xs.length=n):qR Mc (.mat 0 xs) {C with ver:=0}:=by
 obtain⟨h1,h2,h3,h4,h5,_,h6⟩:=h;refine⟨rfl,by rw[hn];exact h2,h3,h4,h5,?_⟩;rw[up.H];subst hn;simp_all
theorem yQn {L Mc}(up:Up L Mc){xs:List (List Int)}{C}(h:qR L (.arr true (.sl (.int .i64)) xs) C):qR Mc (.pmat 0 [] xs.length) {C with ver:=0}:=by
 obtain⟨h1,h2,h3,h4⟩:=h;have hr:=h3 rfl;refine⟨rfl,h1,h2,by simp_all,?_,by simp,?_⟩
 ·simp[zS.fp];grind
 ·cases hB:C.blk with
  |none=>simp_all
  |some B=>
   rw[hB] at h4;obtain⟨vals,e,h5,_,h7,_⟩:=h4;refine⟨vals,e,by rw[up.H];exact h5,by simpa[Ty.size] using h7,by simp⟩
theorem yA2 {L Mc}(df:Ok L)(ok:Ok Mc)(up:Up L Mc){nm}(aC:Mc.h nm=none){r c d}(h:gT L.h r c=some d)
  (hb:∀id∈yJ [r] [c],∀C,L.κ id=some C→∀b∈C.fp,¬qC Mc b∧¬Mc.F b∧b<Mc.H.size):
  ∃cB:zE,cB.H=Mc.H∧cB.G=Mc.G∧cB.F=Mc.F∧cB.h=zX Mc.h (iW nm r d).2∧Ok cB∧qK Mc cB∧
   (∀b,qC cB b→qC Mc b∨∃id∈yJ [r] [c],∃C,L.κ id=some C∧b∈C.fp)∧∀v,zM L c v→zM cB (iW nm r d).1 v:=by
 have same : (iW nm r d).2 = [] → (∀ v, zM L c v → zM Mc (iW nm r d).1 v) → _ := fun e hv => (⟨Mc,rfl,rfl,rfl,by rw[e];rfl,ok,.refl Mc,by grind,hv⟩:
  ∃cB:zE,cB.H=Mc.H∧cB.G=Mc.G∧cB.F=Mc.F∧cB.h=zX Mc.h (iW nm r d).2∧Ok cB∧qK Mc cB∧
   (∀b,qC cB b→qC Mc b∨∃id∈yJ [r] [c],∃C,L.κ id=some C∧b∈C.fp)∧∀v,zM L c v→zM cB (iW nm r d).1 v)
 unfold gT at h;split at h
 ·rename_i k j n;cases e:vY j k with
  |false=>rw[e] at h;cases h
  |true=>
   rw[e] at h;cases h;exact same rfl fun v hv=>by rw[←ka e];exact hv
 ·cases h;exact same rfl fun v hv=>hv
 ·obtain⟨e,hx⟩:=dM h;subst e;subst hx;refine same rfl fun v hv=>?_
  show zT Mc.H Mc.G _ _ _;rw[up.H,up.G];exact hv
 ·cases h;refine same rfl fun v hv=>?_
  rw[show v=.slice none 0 0 from hv];exact uY
 ·rename_i t id;split at h
  ·rename_i s xs ab;obtain⟨e,hx⟩:=dM h;subst e;subst hx;obtain⟨C,hC,hO⟩:=df.obj id _ ab;obtain⟨k1,k2,k3⟩:=zE.add_ok ok aC (o:=.arr true s xs) (C:=C) (P9 (Mc:=Mc.add nm (.arr true s xs) C) ⟨up.H,up.G⟩ hO) (hb id (by simp[yJ]) C hC);refine⟨Mc.add nm (.arr true s xs) C,rfl,rfl,rfl,rfl,k1,k2,fun b bn=>(k3 b bn).imp (fun h=>h) fun h=>⟨id,by simp[yJ],C,hC,h⟩,fun v hv=>?_⟩;obtain⟨C',aj,hS⟩:=hv;rw[hC] at aj;cases aj;refine⟨C,κset_same _ _ _,?_⟩;show yY Mc.H C 0 C.len v;rw[up.H];exact hS
  ·cases h
 ·rename_i t id n;split at h
  ·rename_i s xs ab;obtain⟨e,hx⟩:=dM h;subst e;subst hx;obtain⟨C,hC,hO⟩:=df.obj id _ ab;let C':zS:={C with len:=(xs.take n).length};have kq:qR (Mc.add nm (.arr true s (xs.take n)) C') (.arr true s (xs.take n)) C':=by
    obtain⟨q1,q2,q3,q4⟩:=P9 (Mc:=Mc.add nm (.arr true s (xs.take n)) C') ⟨up.H,up.G⟩ hO;refine⟨rfl,q2,q3,?_⟩;show match C.blk with
     |none=>_
     |some B=>_
    cases hB:C.blk with
    |none=>rw[hB] at q4;show xs.take n=[];rw[q4];simp
    |some B=>
     rw[hB] at q4;obtain⟨vals,e,r1,r2,r3,r4⟩:=q4;have hle:(xs.take n).length≤xs.length:=by rw[List.length_take];omega
     have:=Nat.mul_le_mul_right s.size hle;refine⟨vals,e,r1,r2,by omega,fun i hi=>?_⟩;rw[List.getElem_take];exact r4 i (by omega)
   obtain⟨k1,k2,k3⟩:=zE.add_ok ok aC (o:=.arr true s (xs.take n)) (C:=C') kq (hb id (by simp[yJ]) C hC);refine⟨Mc.add nm (.arr true s (xs.take n)) C',rfl,rfl,rfl,rfl,k1,k2,fun b bn=>(k3 b bn).imp (fun h=>h) fun h=>⟨id,by simp[yJ],C,hC,h⟩,fun v hv=>?_⟩;obtain⟨C1,c0,h1,hS,_⟩:=hv;rw[hC] at c0;cases c0;have hl:(xs.take n).length=n:=by rw[List.length_take,←hO.1];omega
   refine⟨C',κset_same _ _ _,?_⟩;show yY Mc.H C' 0 (xs.take n).length v;rw[hl,up.H];exact hS
  ·cases h
 ·rename_i t;cases h;obtain⟨k1,k2,k3⟩:=Mc.nilObj_ok ok aC t false;refine⟨Mc.nilObj nm (jO t false) (eA t false),rfl,rfl,rfl,rfl,k1,k2,by grind,fun v hv=>?_⟩;rw[show v=.slice none 0 0 from hv];exact⟨_,κset_same _ _ _,none,0,rfl,rfl,rfl,rfl⟩
 ·rename_i id;split at h
  ·rename_i ver xs ab;cases h;obtain⟨C,hC,hO⟩:=df.obj id _ ab;obtain⟨k1,k2,k3⟩:=zE.add_ok ok aC (o:=.mat 0 d) (C:={C with ver:=0}) (yJo (Mc:=Mc.add nm (.mat 0 d) {C with ver:=0}) ⟨up.H,up.G⟩ hO) (hb id (by simp[yJ]) C hC);refine⟨Mc.add nm (.mat 0 d) {C with ver:=0},rfl,rfl,rfl,rfl,k1,k2,fun b bn=>(k3 b bn).imp (fun h=>h) fun h=>⟨id,by simp[yJ],C,hC,h⟩,fun v hv=>?_⟩;obtain⟨C',aj,hS⟩:=hv;rw[hC] at aj;cases aj;refine⟨_,κset_same _ _ _,?_⟩;show yY Mc.H C 0 C.len v;rw[up.H];exact hS
  ·rename_i ver xs n ab;obtain⟨hc,h⟩:Nat.beq xs.length n=true∧some xs=some d:=by
    cases e:Nat.beq xs.length n with
    |true=>rw[e] at h;exact⟨rfl,h⟩
    |false=>rw[e] at h;cases h
   cases h;obtain⟨C,hC,hO⟩:=df.obj id _ ab;obtain⟨k1,k2,k3⟩:=zE.add_ok ok aC (o:=.mat 0 d) (C:={C with ver:=0}) (yIl (Mc:=Mc.add nm (.mat 0 d) {C with ver:=0}) ⟨up.H,up.G⟩ hO (Nat.eq_of_beq_eq_true hc)) (hb id (by simp[yJ]) C hC);refine⟨Mc.add nm (.mat 0 d) {C with ver:=0},rfl,rfl,rfl,rfl,k1,k2,fun b bn=>(k3 b bn).imp (fun h=>h) fun h=>⟨id,by simp[yJ],C,hC,h⟩,fun v hv=>?_⟩;obtain⟨C',aj,hS⟩:=hv;rw[hC] at aj;cases aj;refine⟨_,κset_same _ _ _,?_⟩;show yY Mc.H C 0 C.len v;rw[up.H];exact hS
  ·cases h
 ·cases h;obtain⟨k1,k2,k3⟩:=Mc.nilObj_ok ok aC (.int .i64) true;refine⟨Mc.nilObj nm (jO (.int .i64) true) (eA (.int .i64) true),rfl,rfl,rfl,rfl,k1,k2,by grind,fun v hv=>?_⟩;rw[show v=.slice none 0 0 from hv];exact⟨_,κset_same _ _ _,none,0,rfl,rfl,rfl,rfl⟩
 ·rename_i id;split at h
  ·rename_i xs ab;cases h;obtain⟨C,hC,hO⟩:=df.obj id _ ab;obtain⟨k1,k2,k3⟩:=zE.add_ok ok aC (o:=.pmat 0 [] xs.length) (C:={C with ver:=0}) (yQn (Mc:=Mc.add nm (.pmat 0 [] xs.length) {C with ver:=0}) ⟨up.H,up.G⟩ hO) (hb id (by simp[yJ]) C hC);refine⟨Mc.add nm (.pmat 0 [] xs.length) {C with ver:=0},rfl,rfl,rfl,rfl,k1,k2,fun b bn=>(k3 b bn).imp (fun h=>h) fun h=>⟨id,by simp[yJ],C,hC,h⟩,fun v hv=>?_⟩;obtain⟨C',aj,hS⟩:=hv;rw[hC] at aj;cases aj;refine⟨_,κset_same _ _ _,?_⟩;show yY Mc.H C 0 C.len v;rw[up.H];exact hS
  ·cases h
 ·cases h;obtain⟨k1,k2,k3⟩:=zE.add_ok ok aC (o:=.pmat 0 [] 0) (C:=⟨none,0,1,0,[]⟩) ⟨rfl,rfl,rfl,rfl,by simp[zS.fp],Nat.le_refl _,rfl⟩ (nofun);refine⟨Mc.add nm (.pmat 0 [] 0) ⟨none,0,1,0,[]⟩,rfl,rfl,rfl,rfl,k1,k2,fun b bn=>(k3 b bn).imp (fun h=>h) nofun,fun v hv=>?_⟩;rw[show v=.slice none 0 0 from hv];exact⟨_,κset_same _ _ _,none,0,rfl,rfl,rfl,rfl⟩
 ·rename_i id;split at h
  ·rename_i bQ ab;cases h;obtain⟨C,hC,hO⟩:=df.obj id _ ab;have kq:qR (Mc.add nm (.imap d) C) (.imap d) C:=by
    obtain⟨B,es,ck,h1,h2,h3,h4,h5⟩:=hO;refine⟨B,es,ck,h1,h2,?_,h4,h5⟩;show Mc.H[B]? =_;rw[up.H];exact h3
   obtain⟨k1,k2,k3⟩:=zE.add_ok ok aC (o:=.imap d) (C:=C) kq (hb id (by simp[yJ]) C hC);refine⟨Mc.add nm (.imap d) C,rfl,rfl,rfl,rfl,k1,k2,fun b bn=>(k3 b bn).imp (fun h=>h) fun h=>⟨id,by simp[yJ],C,hC,h⟩,fun v hv=>?_⟩;obtain⟨C',B,aj,hB,e⟩:=hv;rw[hC] at aj;cases aj;exact⟨C,B,κset_same _ _ _,hB,e⟩
  ·cases h
 ·exact same rfl fun v hv=>hv
 ·exact same rfl fun v hv=>hv.one
 ·exact same rfl fun v hv=>hv
 ·cases h
theorem AA r c l cs:yJ (r::l) (c::cs)=yJ [r] [c]++yJ l cs:=by
 cases r<;>cases c<;>rfl
theorem Qa {nm r d n}(h:n≠nm) hh:zX hh (iW nm r d).2 n=hh n:=by
 cases r<;>first|rfl|exact qN _ _ h
theorem F0 {h}:∀{n nm},lS h nm n=true→∀i,i<n→h (nm+i)=none
 |n+1,nm,e,i,hi=>by
  unfold lS at e;rw[Bool.and_eq_true] at e;cases i with
  |zero=>
   grind
  |succ i=>rw[←F0 e.2 i (by omega)];grind
theorem F1 {L:zE}(df:Ok L):∀{l:List RC} {cs:List zN} {d:RL l} {nm:Nat} {Mc:zE},Ok Mc→Up L Mc→(∀i,i<l.length→Mc.h (nm+i)=none)→jP L.h l cs=some d→(yJ l cs).Nodup→
  (∀id∈yJ l cs,∃o,L.h id=some o∧o.owned=true)→
  (∀id∈yJ l cs,∀C,L.κ id=some C→∀b∈C.fp,¬qC Mc b∧¬Mc.F b∧b<Mc.H.size)→
  ∃cB:zE,cB.H=Mc.H∧cB.G=Mc.G∧cB.F=Mc.F∧cB.h=zX Mc.h (ga nm l d).2∧Ok cB∧qK Mc cB∧
   (∀b,qC cB b→qC Mc b∨∃id∈yJ l cs,∃C,L.κ id=some C∧b∈C.fp)∧∀vs,zG (zM L) cs vs→zG (zM cB) (ga nm l d).1 vs
 |[],[],d,nm,Mc,ok,up,_,_,_,_,_=>⟨Mc,rfl,rfl,rfl,rfl,ok,.refl Mc,fun b h=>.inl h,fun vs h=>by
  cases vs with
  |nil=>trivial
  |cons _ _=>exact h.elim⟩
 |r::l,c::cs,d,nm,Mc,ok,up,hf,h,cc,au,hb=>by
  unfold jP at h;split at h
  ·rename_i x xs e1 e2;cases h;rw[AA] at cc au hb;obtain⟨nd1,nd2,nd3⟩:=List.nodup_append.1 cc;obtain⟨M1,a1,a2,a3,a4,a5,a6,a7,a8⟩:=yA2 df ok up (by have:=hf 0 (by simp);simpa using this) e1 (by grind);have up1:Up L M1:=⟨a1.trans up.H,a2.trans up.G⟩;obtain ⟨M2, b1, b2, b3, b4, b5, b6, b7, b8⟩ := F1 df (nm := nm + 1) a5 up1 (fun i hi=>by
     rw[a4,Qa (by omega)];have:=hf (i+1) (by simp;omega);grind) e2 nd2 (fun id ab => au id (by grind)) (fun id ab C hC b rD=>by
     obtain⟨q1,q2,q3⟩:=hb id (List.mem_append_right _ ab) C hC b rD;refine⟨fun ho=>?_,by simp_all,by simp_all⟩;rcases a7 b ho with ho|⟨jd,bR,D,hD,F2⟩
     ·exact q1 ho
     ·have ba:id≠jd:=by grind
      obtain⟨o1,p1,p2⟩:=au id (by grind);obtain⟨o2,p3,p4⟩:=au jd (List.mem_append_left _ bR);exact df.disj id jd o1 o2 C D b ba p1 p3 p2 p4 hC hD rD F2)
   refine⟨M2,b1.trans a1,b2.trans a2,b3.trans a3,?_,b5,a6.trans (by simp_all) b6,fun b bn=>?_,fun vs ca=>?_⟩
   ·show M2.h=zX Mc.h ((iW nm r x).2++(ga (nm+1) l xs).2);rw[jZ,←a4];exact b4
   ·rw[AA];grind
   ·cases vs with
    |nil=>exact ca.elim
    |cons v vs=>exact⟨(a8 v ca.1).ext b6,b8 vs ca.2⟩
  ·cases h
 |[],_::_,_,_,_,_,_,_,h,_,_,_=>by cases h
 |_::_,[],_,_,_,_,_,_,h,_,_,_=>by cases h
theorem yL {α:Type}{c x}{y:α}(h:(bif c then x else none)=some y):c=true∧x=some y:=by
 grind
theorem Qb {M}:∀{l xs cs vs},FT l xs=some cs→zG (lF M) xs vs→
  cs.length=(l.flatMap (·.2)).length∧∃us:List Value,zG (zM M) cs us∧∀M' ay,zG (zM M') ay us→zG (lF M') (FU l ay) vs
 |[],[],cs,[],h,_=>by cases h;exact⟨rfl,[],trivial,fun _ _ _=>trivial⟩
 |(b,l)::ls,(g,eX)::rest,cs,v::vs,h,hv=>by
  obtain⟨hc,h⟩:=yL h;split at h
  ·rename_i r hr;cases h;rw[Bool.and_eq_true] at hc;have hl:eX.length=l.length:=by simp_all
   obtain⟨k1,us,k2,k3⟩:=Qb hr hv.2;refine⟨by simp_all,?_⟩;cases b with
   |true=>
    have hg:g=true:=hc.1;subst hg;obtain⟨ws,rfl,hw⟩:=hv.1;refine⟨ws.toList++us,hw.append k2,fun M' ay h'=>⟨?_,?_⟩⟩
    ·have h1:=zG.take l.length h';have F3:=hw.length;rw[show(ws.toList++us).take l.length=ws.toList from by simp_all] at h1;exact⟨ws,rfl,h1⟩
    ·have h1:=zG.drop l.length h';have F3:=hw.length;simp_all
   |false=>
    have hg:=hc.1;simp  at hg;obtain⟨AB,hg2⟩:=hg;subst AB;have Oj:eX.length=1:=by simp_all
    match eX,Oj with
    |[c],_=>
     have fD:zM M c v:=hv.1;refine⟨v::us,⟨fD,k2⟩,fun M' ay h'=>?_⟩
     match ay,h' with
     |c'::F4,h'=>
      have e:l.length=1:=by omega
      refine⟨?_,?_⟩
      ·rw[e];exact h'.1
      ·rw[e];exact k3 M' F4 h'.2
  ·cases h
 |[],[],_,_::_,_,hv=>hv.elim
theorem Qc {M}{s:RS}{v cs rv}(h:s.get v=some cs)(hv:zK M v rv):
  cs.length=s.cells.length∧∃us:List Value,zG (zM M) cs us∧∀M' ay,zG (zM M') ay us→zK M' (s.mk ay) rv:=by
 unfold RS.get at h;split at h
 ·cases h;refine⟨rfl,[rv],⟨hv,trivial⟩,fun M' ay h'=>?_⟩
  match ay,h' with
  |[c'],h'=>exact h'.1
 ·obtain⟨hl,h⟩:=yL h;cases h;obtain⟨vs,rfl,hx⟩:=hv;exact⟨Nat.eq_of_beq_eq_true hl,vs.toList,hx,fun M' ay h'=>⟨vs,rfl,h'⟩⟩
 ·obtain⟨vs,rfl,hx⟩:=hv;obtain⟨k1,us,k2,k3⟩:=Qb h hx;exact⟨k1,us,k2,fun M' ay h'=>⟨vs,rfl,by grind⟩⟩
 ·cases h
theorem yQt {h0 s a a' v u M}(ok:Ok M)(hf:yX h0 M.h)(hv:zK M a v)(h:lT h0 s a=some (a',u)):
  ∃L:zE,L.H=M.H∧L.h=zX M.h u∧Ok L∧qU M L∧zK L a' v∧yX h0 L.h:=by
 unfold lT at h;split at h
 ·rename_i p x;split at h
  ·rename_i y u1 e;cases h;obtain⟨L,h1,h2,h3,h4,h5,h6⟩:=lV (cs:=[x]) (vs:=[v]) ok hf ⟨hv,trivial⟩ e;exact⟨L,h1,h2,h3,h4,h5.1,h6⟩
  ·cases h
 ·split at h
  ·rename_i ys u1 e;cases h;obtain⟨vs,rfl,hx⟩:=hv;obtain⟨L,h1,h2,h3,h4,h5,h6⟩:=lV ok hf hx e;exact⟨L,h1,h2,h3,h4,⟨vs,rfl,h5⟩,h6⟩
  ·cases h
 ·cases h;exact⟨M,rfl,rfl,ok,.refl M,hv,hf⟩
theorem lW.ext {M M'}(x:qK M M'):∀{as vs},zG (zK M) as vs→zG (zK M') as vs:=fun h=>h.mono fun _ _ h=>h.ext x
theorem Qd {h0}:∀{l as cE vs u M},Ok M→yX h0 M.h→zG (zK M) as vs→iX h0 l as=some (cE,u)→
  ∃L:zE,L.H=M.H∧L.h=zX M.h u∧Ok L∧qU M L∧zG (zK L) cE vs∧yX h0 L.h
 |s::l,a::as,cE,v::vs,u,M,ok,hf,hv,h=>by
  unfold iX at h;split at h
  ·rename_i a1 u1 F5 iK e1 e2;cases h;obtain⟨M1,h1,h2,h3,h4,h5,h6⟩:=yQt ok hf hv.1 e1;obtain⟨M2,k1,k2,k3,k4,k5,k6⟩:=Qd h3 h6 (lW.ext h4.ext hv.2) e2;exact⟨M2,k1.trans h1,by rw[k2,h2,jZ],k3,h4.trans k4,⟨h5.ext k4.ext,k5⟩,k6⟩
  ·cases h
 |[],as,cE,vs,u,M,ok,hf,hv,h=>by
  cases as<;>cases h<;>exact⟨M,rfl,rfl,ok,.refl M,hv,hf⟩
 |s::l,[],cE,vs,u,M,ok,hf,hv,h=>by cases h;exact⟨M,rfl,rfl,ok,.refl M,hv,hf⟩
def zE.over (M L:zE):zE:={κ:=M.κ,F:=fun b=>M.F b∨L.G b,G:=L.G,h:=M.h,H:=L.H}
theorem zE.over_ok {M Ml L}(ok:Ok M)(df:Ok L)(lo:Lo M Ml)(P8:∀b,¬qC Ml b)(g:jB Ml L):Ok (M.over L)∧qU M (M.over L):=by
 have aS:∀b,Ml.F b↔b<M.H.size:=fun b=>by rw[lo.F]
 have bN:∀b,b<M.H.size→L.H[b]? =M.H[b]? :=fun b hb=>by rw[g.same b (by grind),lo.H]
 have bZ:M.H.size≤L.H.size:=by grind
 have hG:∀b,L.G b→b<M.H.size→M.G b:=fun b hb hs=>by
  rcases g.Gb b hb (by rw[lo.H];exact hs) with h|h
  ·rw[lo.G] at h;exact h
  simp_all
 have dA:∀b,M.F b→b<M.H.size:=ok.Flt;have x:qK M (M.over L):=⟨fun id C h=>⟨C,h,C.le_refl⟩,fun b h=>.inl h,fun b h=>g.G b (by rw[lo.G];exact h),fun b h=>bN b (by grind),fun b h=>bN b (ok.Flt b (ok.GF b h)),fun b h=>qe (bN b h)⟩;have au:∀b,qC (M.over L) b→qC M b:=fun b h=>h
 refine⟨⟨fun id o h=>?_,fun id h=>ok.non id h,ok.disj,fun b h=>⟨fun hf=>?_,?_⟩,fun b h=>.inr h,fun b h=>?_⟩,⟨x,bZ,fun b hb _=>bN b hb,by grind,fun b h hs=>.inl (hG b h hs),fun b h hs=>?_⟩⟩
 ·obtain⟨C,hC,hO⟩:=ok.obj id o h;exact⟨C,hC,hO.ext x fun ho b hb=>bN b (ok.own b ⟨id,o,C,h,ho,hC,hb⟩).2⟩
 ·have:=ok.own b (au b h);rcases hf with hf|hf
  ·simp_all
  ·exact this.1 (ok.GF b (by grind))
 ·have h1:=(ok.own b (au b h)).2;show b<L.H.size;omega
 ·show b<L.H.size;rcases h with h|h
  ·grind
  ·exact df.Flt b (df.GF b h)
 ·rcases h with h|h
  ·simp_all
  ·exact .inl (ok.GF b (hG b h hs))
theorem yK0 {h0 r c d}(h:gT h0 r c=some d):∀id∈yJ [r] [c],∃o,h0 id=some o∧o.owned=true:=by
 unfold gT at h;split at h;all_goals (try (intro id ab;simp[yJ] at ab;done))
 ·intro rp ab;have:=List.mem_singleton.1 ab;subst this;split at h
  ·exact⟨_,by assumption,rfl⟩
  ·cases h
 ·intro rp ab;have:=List.mem_singleton.1 ab;subst this;split at h
  ·exact⟨_,by omega,rfl⟩
  ·cases h
 ·rename_i id;intro rp ab;have:=List.mem_singleton.1 ab;subst this;split at h
  ·exact⟨_,by assumption,rfl⟩
  ·exact⟨_,by omega,rfl⟩
  ·cases h
 ·intro rp ab;have:=List.mem_singleton.1 ab;subst this;split at h
  ·exact⟨_,by assumption,rfl⟩
  ·cases h
 ·intro rp ab;have:=List.mem_singleton.1 ab;subst this;split at h
  ·exact⟨_,by assumption,rfl⟩
  ·cases h
 ·cases h
theorem lX {L:zE}:∀{l cs d},jP L.h l cs=some d→∀id∈yJ l cs,∃o,L.h id=some o∧o.owned=true
 |r::l,c::cs,d,h,id,ab=>by
  unfold jP at h;split at h
  ·rename_i x xs e1 e2;rw[AA] at ab;rcases List.mem_append.1 ab with ab|ab
   ·exact yK0 e1 id ab
   ·exact lX e2 id ab
  ·cases h
theorem Qe {E}(hE:wC E)(hS:jQ E.sums)(hm:E.P.follows .mixedOrders=true){A k pre na f fn}(hf:E.P.funcs[f]? =some fn)(hL:∀c,fn.body=some c→yS E.P A pre na fn.ntmps c)(cj:∀vs w,(callFunc f vs).run E.P w=.ok (.enter f vs) w)
  {as rs X S pack} {unpack:RL rs.cells→X} (dH:∀d,pack (unpack d)=d) (aF:∀d x,S d=some x→∀Ml vs,zG (zK Ml) (gQ as d).1 vs→∃cC,zG (zK Ml) cC vs∧dV E A k pre na fn cC (gQ as d).2 (fb rs unpack)=some x)
  {nm args h v u} (hy:qJ (gb as rs S pack nm args h) v u):nR E.P f args h v u:=by
 intro M w vs hh hH ok hv;refine .inl ⟨cj vs w,?_⟩;unfold gb at hy;split at hy
 ·exact hy.elim
 rename_i cC u0 oe;split at hy
 case h_2=>exact hy.elim
 rename_i d hd;obtain⟨hc,hy⟩:=nN hy;rw[Bool.and_eq_true] at hc;obtain⟨x,hx,rfl,rfl⟩:=hy;subst hh;obtain⟨M1,a1,a2,a3,a4,a5,a6⟩:=Qd ok (yX.refl _) hv oe;rw[←a2] at hd;obtain⟨Ml,lo,b2,b3,b4,b5⟩:=yNe a3 a5 hd;obtain⟨Qf,og,F6⟩:=aF d x hx Ml _ b5;refine Calls.mono (FQ hE hS hm hf hL F6 b2 (by rw[lo.H,a1];exact hH) b3 og) fun e w' he=>?_
 cases e with
 |panicked _=>omega
 |outgrown=>omega
 |returned rv=>
  obtain⟨L0,v0,st,hK,c1,c2,c3,c4,_,c5,c6,c7,c8,_⟩:=he;have hK:uX st.h rs v0=some (pack x):=by
   unfold fb at hK;grind
  unfold uX at hK;split at hK
  case h_2=>cases hK
  rename_i cs kJ;split at hK
  case h_2=>cases hK
  rename_i ay u1 uZ;obtain⟨cc,hK⟩:=yL hK;obtain⟨hlen,us,d1,d2⟩:=Qc kJ c5;rw[←c1] at uZ hK;obtain⟨L,e1,e2,e3,e4,e5,e6⟩:=lV c3 (yX.refl _) d1 uZ;rw[←e2] at hK;have g:jB Ml L:=c4.trans e4.grow;obtain⟨f1,f2⟩:=zE.over_ok a3 e3 lo b4 g;have gU:∀i,i<rs.cells.length→(M1.over L).h (nm+i)=none:=fun i hi=>by
   have h1:=F0 hc.1 i hi;show M1.h (nm+i)=none;rcases a6 (nm+i) with h|⟨own,t,xs,h,_⟩|⟨ver,xs,h,_⟩
   all_goals simp_all
  obtain ⟨Mc, g1, g2, g3, g4, g5, g6, g7, g8⟩ := F1 e3 f1 ⟨rfl, rfl⟩ gU hK (re cc) (lX hK) (fun id ab C hC b hb=>by
   obtain⟨o,ho,de⟩:=lX hK id ab;have au:qC L b:=⟨id,o,C,ho,de,hC,hb⟩;have fS:¬b<M1.H.size:=fun aS=>b4 b (g.own b au (by rw[lo.H];omega))
   refine⟨fun h=>fS (a3.own b h).2,fun h=>?_,(e3.own b au).2⟩;rcases h with h|h
   ·exact fS (a3.Flt b h)
   ·exact(e3.own b au).1 (e3.GF b h))
  have F7:qU M1 Mc:=by
   have au:∀b,qC Mc b→b<M1.H.size→qC M1 b:=fun b hb aS=>by
    rcases g7 b hb with h|⟨id,ab,C,hC,rD⟩
    ·exact h
    ·obtain⟨o,ho,de⟩:=lX hK id ab;exact absurd (g.own b ⟨id,o,C,ho,de,hC,rD⟩ (by rw[lo.H];omega)) (b4 b)
   refine⟨f2.ext.trans f2.size g6,?_,fun b hb hn=>?_,au,fun b hb aS=>?_,fun b hb aS=>?_⟩
   ·rw[g1];exact f2.size
   ·rw[g1];exact f2.frame b hb hn
   ·rw[g2] at hb;exact f2.Gb b hb aS
   ·rw[g3] at hb;exact f2.Fb b hb aS
  refine⟨Mc,⟨c6,c7,c8,?_,?_,g5,a4.trans F7⟩,?_⟩
  ·rw[g1];show L.H=_;rw[e1,c2]
  ·rw[jZ,←a2];exact g4
  ·exact d2 Mc _ (g8 us e5)
theorem ySz {E}(hE:wC E)(hS:jQ E.sums)(hm:E.P.follows .mixedOrders=true){A k pre na f fn}(hf:E.P.funcs[f]? =some fn)(hL:∀c,fn.body=some c→yS E.P A pre na fn.ntmps c)(cj:∀vs w,(callFunc f vs).run E.P w=.ok (.enter f vs) w)
  {as rs X S} {pack:X→RL rs.cells} {unpack} (dH:∀d,pack (unpack d)=d) (aF:∀d,dV E A k pre na fn (gQ as d).1 (gQ as d).2 (fb rs unpack)=S d)
  {nm args h v u} (hy:qJ (gb as rs S pack nm args h) v u):nR E.P f args h v u:=
 Qe hE hS hm hf hL cj dH (fun d x hx _ _ hv=>⟨_,hv,(aF d).trans hx⟩) hy
theorem yQj {E}(hE:wC E)(hS:jQ E.sums)(hm:E.P.follows .mixedOrders=true){A k pre na f fn}(hf:E.P.funcs[f]? =some fn)(hL:∀c,fn.body=some c→yS E.P A pre na fn.ntmps c)(cj:∀vs w,(callFunc f vs).run E.P w=.ok (.enter f vs) w)
  {sh t rs X} {S:List t.den→Option X} {pack unpack} (dH:∀d,pack (unpack d)=d) (bI:∀x,S []=some x→dV E A k pre na fn [.c .nsl] (eE []) (fb rs unpack)=some x)
  (aF:∀xs x,S xs=some x→dV E A k pre na fn [.c (.nfl sh t xs)] (eE []) (fb rs unpack)=some x)
  {nm args h v u} (hy:qJ (gb [.c (.dat sh t)] rs (fun d=>S d.1) pack nm args h) v u):nR E.P f args h v u:=
 Qe hE hS hm hf hL cj dH (fun d x hx Ml vs hv=>by
  obtain⟨xs,_⟩:=d
  match vs,hv with
  |[v],hv=>
   have fD:zT Ml.H (bif sh then Ml.G else Ml.F) (.sl t) xs (fun _=>some v):=hv.1;have gK:=fD;simp[zT] at fD;obtain⟨A',n,c,rfl,hn,hc,h⟩:=fD;cases A' with
   |some a=>exact⟨[.c (.nfl sh t xs)],⟨⟨by simp,gK⟩,trivial⟩,aF xs x hx⟩
   |none=>
    rcases h with⟨rfl,h0⟩|⟨B,o,e,_⟩
    ·have h0:=h0 rfl;subst h0;subst hn;exact⟨[.c .nsl],⟨rfl,trivial⟩,bI x hx⟩
    ·cases e) hy
def qQ.orElse:qQ→qQ→qQ
 |.alts [],b=>b
 |a,_=>a
abbrev gf:=Nat→Nat→List zO→Hp→qQ
def jA:List (Nat×gf)→yx
 |[],_,_,_,_,_=>.stuck
 |(g,e)::l,k,nm,f,args,h=>bif Nat.beq g f then(e k nm args h).orElse (jA l k nm f args h) else jA l k nm f args h
def Qg (P:Program)(r:Nat×gf):Prop:=∀k nm args h v u,qJ (r.2 k nm args h) v u→nR P r.1 args h v u
def AE (e:gf):Prop:=∀k nm (args:List zO) h h',(args.any yO=false→∀id,(id∈args.flatMap qL∨fu nm id=true)→h id=h' id)→(args.any yO=true→h=h')→e k nm args h=e k nm args h'
theorem yQ9 {a b v u}(h:qJ (a.orElse b) v u):qJ a v u∨qJ b v u:=by
 unfold qQ.orElse at h;grind
theorem Qh {P}:∀{l},(∀r∈l,Qg P r)→Pf P (jA l)
 |[],_=>nofun
 |(g,e)::l,hl=>fun k nm f args h v u hy=>by
  have ih:=Qh (l:=l) fun r hr=>hl r (by grind)
  unfold jA at hy;cases hg:Nat.beq g f with
  |false=>rw[hg] at hy;exact ih k nm f args h v u hy
  |true=>
   rw[hg] at hy;have:g=f:=by simp_all
   subst this;rcases yQ9 hy with hy|hy
   ·exact hl (g,e) (by simp) k nm args h v u hy
   ·exact ih k nm g args h v u hy
theorem Qi:∀{l},(∀r∈l,AE r.2)→jQ (jA l)
 |[],_=>fun k nm f args h h' _ _=>rfl
 |(g,e)::l,hl=>fun k nm f args h h' h1 h2=>by
  have ih:=Qi (l:=l) (by grind) k nm f args h h' h1 h2;unfold jA;have he:e k nm args h=e k nm args h':=hl (g,e) (by simp) k nm args h h' h1 h2;rw[ih,he]
section
variable {h h':Hp}
theorem yE6 {t c}(hh:∀id∈qX c,h id=h' id):n9 h t c=n9 h' t c:=by
 have e:=Ao hh;unfold n9;grind
theorem Qj {p c}(hh:∀id∈qX c,h id=h' id):kH h p c=kH h' p c:=by
 have e:=fun t=>yE6 (t:=t) hh
 unfold kH;grind
theorem Qk:∀{l cs},(∀id∈cs.flatMap qX,h id=h' id)→oc h l cs=oc h' l cs
 |[],[],_
 |[],_::_,_
 |_::_,[],_=>rfl
 |p::l,c::cs,hh=>by
  simp  at hh;unfold oc;rw[Qj fun id hi=>hh id (.inl hi),Qk (by grind)]
theorem yHg {ls}:kI h ls []=kI h' ls []:=by
 cases ls<;>rfl
theorem yG5 {s:AS}{a}(hb:yO a=false):s.get h a=s.get h' a:=by
 unfold AS.get;cases s with
 |c p=>grind
 |agg l=>grind
 |ptr l=>
  cases a with
  |c x=>cases x<;>first|rfl|(exact absurd hb (by nofun))
  |_=>rfl
 |fn f aT=>
  cases a with
  |c x=>cases x with
   |fn g ids=>
    cases ids with
    |nil=>dsimp only;rw[yHg]
    |cons _ _=>exact absurd hb (by nofun)
   |_=>rfl
  |_=>rfl
theorem yDz {s:AS}{a cs}(hb:yO a=false)(e:s.get h a=some cs):∀id∈cs.flatMap qX,id∈qL a:=by
 unfold AS.get at e;split at e
 ·cases e;intro id ab;simp  at ab;exact ab
 ·obtain⟨_,e⟩:=yL e;cases e;exact fun id ab=>ab
 ·exact absurd hb (by nofun)
 ·rename_i f aT g ids;obtain⟨_,e⟩:=yL e;cases ids with
  |nil=>cases aT with
   |nil=>cases e;simp
   |cons _ _=>cases e
  |cons _ _=>exact absurd hb (by nofun)
 ·cases e
theorem Ql:∀{l as},as.any yO=false→iV h l as=iV h' l as
 |[],[],_
 |[],_::_,_
 |_::_,[],_=>rfl
 |s::l,a::as,hb=>by
  simp only[List.any_cons,Bool.or_eq_false_iff] at hb;unfold iV;rw[yG5 (h:=h) (h':=h') hb.1,Ql hb.2]
theorem Qm:∀{l as cs},as.any yO=false→iV h l as=some cs→∀id∈cs.flatMap qX,id∈as.flatMap qL
 |[],[],cs,_,e=>by cases e;simp
 |s::l,a::as,cs,hb,e=>by
  simp only[List.any_cons,Bool.or_eq_false_iff] at hb;unfold iV at e;split at e
  ·rename_i c1 rest e1 e2;cases e;intro id ab;rw[List.flatMap_append,List.mem_append] at ab;rw[List.flatMap_cons,List.mem_append];rcases ab with ab|ab
   ·exact .inl (yDz hb.1 e1 id ab)
   ·exact .inr (Qm hb.2 e2 id ab)
  ·cases e
theorem yKf {l as}(hb:as.any yO=false)(hh:∀id∈as.flatMap qL,h id=h' id):od h l as=od h' l as:=by
 unfold od;rw[Ql (h:=h) (h':=h') hb];cases e:iV h' l as with
 |none=>rfl
 |some cs=>exact Qk fun id ab=>hh id (Qm hb e id ab)
theorem rE {x}:[x].flatMap qX=qL (.c x):=by simp[qL]
theorem F8 {c c' u}(e:fQ h c=some (c',u)):(∀id∈qX c',id∈qX c)∧(yO (.c c')=true→yO (.c c)=true):=by
 cases c with
 |osl id r=>
  unfold fQ at e;dsimp only at e;split at e
  ·cases e;exact⟨nofun,nofun⟩
  ·cases r with
   |none=>cases e;exact⟨nofun,nofun⟩
   |some _=>cases e
  ·cases e
 |mrow _ _ _=>cases e
 |_=>cases e;simp
theorem rF:∀{l cs},(∀id∈cs.flatMap qX,h id=h' id)→vV h l cs=vV h' l cs
 |[],cs,_=>by rfl
 |true::l,[],_
 |false::l,[],_=>rfl
 |true::l,c::cs,hh=>by
  simp  at hh;unfold vV;rw[Pn fun id hi=>hh id (.inl hi),rF (by grind)]
 |false::l,c::cs,hh=>by
  unfold vV;rw[rF (by grind)]
theorem rG:∀{l cs ay u},vV h l cs=some (ay,u)→∀id∈ay.flatMap qX,id∈cs.flatMap qX
 |[],cs,ay,u,e=>by cases cs<;>cases e<;>exact by simp
 |true::l,[],ay,u,e
 |false::l,[],ay,u,e=>by cases e;simp
 |true::l,c::cs,ay,u,e=>by
  unfold vV at e;split at e
  ·rename_i c1 u1 eX iK e1 e2;cases e;intro id ab;rw[List.flatMap_cons,List.mem_append] at ab⊢;exact ab.imp ((F8 e1).1 id) (rG e2 id)
  ·cases e
 |false::l,c::cs,ay,u,e=>by
  unfold vV at e;split at e
  ·rename_i eX iK e2;cases e;intro id ab;rw[List.flatMap_cons,List.mem_append] at ab⊢;exact ab.imp (by simp) (rG e2 id)
  ·cases e
theorem yRg {s a}(hh:∀id∈qL a,h id=h' id):lT h s a=lT h' s a:=by
 unfold lT;cases s with
 |c p=>cases a with
  |c x=>
   have:=rF (h:=h) (h':=h') (l:=[p.isKept]) (cs:=[x]) (by rw[rE];exact hh);simp_all
  |_=>rfl
 |agg l=>cases a with
  |agg xs=>
   have:=rF (h:=h) (h':=h') (l:=l.map PC.isKept) (cs:=xs) hh;simp_all
  |_=>rfl
 |_=>rfl
theorem yBt {s a a' u}(e:lT h s a=some (a',u)):(∀id∈qL a',id∈qL a)∧(yO a=false→yO a'=false):=by
 unfold lT at e;split at e
 ·rename_i p x;split at e
  ·rename_i y u1 e1;cases e;refine⟨fun id ab=>by have:=rG e1 id (by rw[rE];omega);rwa [rE] at this,fun hb=>?_⟩;cases hk:p.isKept with
   |false=>rw[hk] at e1;cases e1;exact hb
   |true=>
    rw[hk] at e1;unfold vV at e1;split at e1
    ·rename_i c1 u2 eX iK e2 e3;cases e1;cases hy:yO (.c y) with
     |false=>rfl
     |true=>rw[(F8 e2).2 hy] at hb;cases hb
    ·cases e1
  ·cases e
 ·split at e
  ·rename_i ys u1 e1;cases e;exact⟨rG e1,fun _=>rfl⟩
  ·cases e
 simp_all
theorem Qn:∀{l as},(∀id∈as.flatMap qL,h id=h' id)→iX h l as=iX h' l as
 |[],as,_=>by rfl
 |_::_,[],_=>rfl
 |s::l,a::as,hh=>by
  simp  at hh;unfold iX;rw[yRg fun id hi=>hh id (.inl hi),Qn (by grind)]
theorem Qo:∀{l as cE u},iX h l as=some (cE,u)→(∀id∈cE.flatMap qL,id∈as.flatMap qL)∧(as.any yO=false→cE.any yO=false)
 |[],as,cE,u,e=>by cases as<;>cases e<;>exact by simp
 |s::l,[],cE,u,e=>by cases e;simp
 |s::l,a::as,cE,u,e=>by
  unfold iX at e;split at e
  ·rename_i a1 u1 F5 iK e1 e2;obtain⟨k1,k2⟩:=yBt e1;obtain⟨k3,k4⟩:=Qo e2;grind
  ·cases e
theorem F9:∀{n nm},(∀i,i<n→h (nm+i)=h' (nm+i))→lS h nm n=lS h' nm n
 |0,_,_=>rfl
 |n+1,nm,hh=>by
  unfold lS;have:=hh 0 (by omega);rw[Nat.add_zero] at this;rw[this,F9 (by grind)]
end
theorem Qp {as rs X}{S:Nat→AD as→Option X}{pack}:AE fun k nm args h=>gb as rs (S k) pack nm args h:=by
 intro k nm args h h' h1 h2;cases hb:args.any yO with
 |true=>rw[h2 hb]
 |false=>
  have hh:=h1 hb;show gb as rs (S k) pack nm args h=gb as rs (S k) pack nm args h';unfold gb;rw[Qn (h:=h) (h':=h') (by grind)];cases e:iX h' as args with
  |none=>rfl
  |some p=>
   obtain⟨cC,u⟩:=p;obtain⟨k1,k2⟩:=Qo e;dsimp only;rw[yKf (h:=zX h u) (h':=zX h' u) (k2 hb) fun id ab=>nU (by grind)];cases od (zX h' u) as cC with
   |none=>rfl
   |some d=>
    cases hle:Nat.ble rs.cells.length 100 with
    |false=>simp
    |true=>
     have hle:=Nat.le_of_ble_eq_true hle;rw [F9 (h := h) (h' := h') fun i hi => hh _ (.inr (by
      simp only[fu,Bool.and_eq_true];exact⟨by simp,by simp[Nat.blt_eq];omega⟩))]
def fG:Code→List Code
 |.seq a b=>fG a++fG b
 |.cond _ a b=>fG a++fG b
 |.block _ b=>fG b
 |.loop b=>[b]
 |_=>[]
def zV (c:Code)(i:Nat):Code:=match(fG c)[i]? with
 |some b=>b
 |none=>.skip
def zW (fn:Func):Code:=match fn.body with
 |some c=>c
 |none=>.skip
def Qq (P:Program)(A:qA)(pre na nt:Nat)(b:Code):Prop:=(∃L,lD A b=some L∧zY P pre na nt b L)∨(lD A b=none∧yS P A pre na nt b)
theorem yLf {P A pre na nt}:∀c,(∀b∈fG c,Qq P A pre na nt b)→yS P A pre na nt c:=by
 intro c
 induction c with
 |seq a b qy qz=>exact fun h=>⟨qy fun x hx=>h x (List.mem_append_left _ hx),qz fun x hx=>h x (List.mem_append_right _ hx)⟩
 |cond t a b qy qz=>exact fun h=>⟨qy fun x hx=>h x (List.mem_append_left _ hx),qz fun x hx=>h x (List.mem_append_right _ hx)⟩
 |block id b ih=>exact fun h=>ih h
 |loop b ih=>
  intro h;rcases h b (List.mem_cons_self ..) with⟨L,h1,h2⟩|⟨h1,h2⟩
  ·refine⟨by grind,by grind⟩
  ·refine⟨fun L' h3=>?_,fun _=>h2⟩;simp_all
 |_=>exact fun _=>trivial
theorem yNb {P A pre na nt c n}(hn:(fG c).length=n)(h:∀i,i<n→Qq P A pre na nt (zV c i)):yS P A pre na nt c:=
 yLf c fun b hb=>by
  obtain⟨i,hi,rfl⟩:=List.getElem_of_mem hb;have e:zV c i=(fG c)[i]:=by
   unfold zV;grind
  grind
theorem lY {P A pre na nt c n}(hn:(fG c).length=n)(h:∀i,i<n→∃L,lD A (zV c i)=some L∧zY P pre na nt (zV c i) L):yS P A pre na nt c:=
 yNb hn fun i hi=>.inl (h i hi)
theorem yAy {P A pre na nt c}(hn:(fG c).length=0):yS P A pre na nt c:=lY hn (by simp)
theorem body_loops {P A pre na fn}(h:yS P A pre na fn.ntmps (zW fn)):∀c,fn.body=some c→yS P A pre na fn.ntmps c:=fun c hc=>by
 unfold zW at h;simp_all
theorem AF {P f fn}(hf:P.funcs[f]? =some fn)(hb:fn.body.isNone=false)(hn:(fn.name== "runtime.NumGoroutine")=false):∀vs w,(callFunc f vs).run P w=.ok (.enter f vs) w:=fun vs w=>by
 have h1:(program).run P w=.ok P w:=rfl;unfold callFunc;simp only[Sem.run_bind,h1,Result.andThen_ok,hf,hn,hb,Bool.false_eq_true,if_false,Sem.run_pure]
abbrev zA (x:Int):Int:=IntKind.wrap .i64 x
abbrev qI (k:IntKind)(x y:Int):Int:=ke (fun _ a b=>a&&&b) k x y
abbrev wF (k:IntKind)(x y:Int):Int:=ke (fun _ a b=>a|||b) k x y
abbrev shl (k:IntKind)(x y:Int):Int:=k.wrap (x*2^(min y.toNat k.bits))
abbrev shr (k:IntKind)(x y:Int):Int:=x.fdiv (2^(min y.toNat k.bits))
abbrev qT (n b:Nat):Bool:=Nat.ble (n*b) 140737488355328&&Nat.ble n 140737488355328
abbrev AG (l c:Int)(b:Nat):Bool:=decide (0≤l)&&decide (l≤c)&&decide (c*(b:Int)≤140737488355328)&&decide (c≤140737488355328)
abbrev AH (lt:Bool)(x y:Int):Int:=bif lt then(bif decide (y<x) then y else x) else(bif decide (y>x) then y else x)
abbrev Ga (xs:List (List Int))(n:Nat):Option (List (List Int)):=
 fb (.c .mat) (fun d=>d.1) (.c (.osl 0 none)) ⟨fun _=>.undef,fun _=>some (.pmat 0 xs n)⟩
theorem yMi xs n:Ga xs n=bif Nat.beq xs.length n then some xs else none:=by
 unfold Ga fb uX RS.get RS.cells;dsimp only[List.map,RC.isFro,vV,yJ,kf,zX];cases h:Nat.beq xs.length n<;>simp[jP,gT,h]
theorem yL3 {l:List Nat}{p:Nat→Bool}(hl:∀t∈l,p t=true)(t:Nat)(h:l.any (Nat.beq t)=true):p t=true:=by
 simp_all
theorem yM3 {P}:uk P (fun _=>false):=nofun
open Go.ChangeShapes Go.WideShapes Go.ChangeAt Go.RowKit
def u9 (f:TypeId→Option Ty):Nat→List (Nat×TypeId)→Option Ty
 |_,[]=>none
 |off,[x]=>bif Nat.beq x.1 off then f x.2 else none
 | off, x :: y :: l => bif Nat.beq x.1 off then (match f x.2 with
  |some a=>(match u9 f (off+a.size) (y::l) with|some b=>some (.pair a b)|none=>none)
  |none=>none) else none
def iY (P:Program):TypeDesc→List (Nat×TypeId)
 |.struct fs=>fs.toList.map fun f=>(f.offset,f.type)
 |.array n e=>(List.range n).map fun i=>(i*P.cellsOf e,e)
 |_=>[]
def gg (P:Program):Nat→TypeId→Option Ty
 |0,_=>none
 |d+1,t=>match P.underlying t with
  |some (.int k)=>bif Nat.beq (P.cellsOf t) 1 then some (.int k) else none
  |some .bool=>bif Nat.beq (P.cellsOf t) 1 then some .bool else none
  |some (.slice e)=>bif Nat.beq (P.cellsOf t) 1&&Nat.ble 1 (P.bytesOf e) then(match gg P d e with|some a=>some (.sl a)|none=>none) else none
  |some x=>match u9 (gg P d) 0 (iY P x) with
   |some a=>bif Nat.beq (P.cellsOf t) a.size then some a else none
   |none=>none
  |none=>none
def Wf:(t:Ty)→t.den→Prop
 |.int k,n=>(Lit.int k n).wf=true
 |.bool,_=>True
 |.sl t,xs=>xs.length≤reachBytes∧∀i (h:i<xs.length),Wf t xs[i]
 |.pair a b,p=>Wf a p.1∧Wf b p.2
theorem Gc {P}:∀{d t ty},gg P d t=some ty→P.cellsOf t=ty.size
 |d+1,t,ty,h=>by
  unfold gg at h;split at h
  ·obtain⟨h1,h2⟩:=yL h;cases h2;exact Nat.eq_of_beq_eq_true h1
  ·obtain⟨h1,h2⟩:=yL h;cases h2;exact Nat.eq_of_beq_eq_true h1
  ·obtain⟨h1,h2⟩:=yL h;rw[Bool.and_eq_true] at h1;split at h2
   ·cases h2;exact Nat.eq_of_beq_eq_true h1.1
   ·cases h2
  ·split at h
   ·obtain⟨h1,h2⟩:=yL h;simp_all
   ·cases h
  ·cases h
section
variable {H:Type} {enc:TypeId×Value→H} {P:Program} {w:World}
abbrev vd (w:World):Nat→Prop:=fun b=>b<w.heap.size
theorem yLu {a n cs}(h:w.cells? 0 a n=some cs):cs.length=n∧∀i,i<n→∃v,cs[i]? =some v∧w.cell? (a.add i)=some v:=by
 have hl:=mapM_some_length h;have hg:=mapM_some_get h;simp at hl;refine⟨hl,fun i hi=>?_⟩;have:=hg i i (by simp[hi]);simp_all
theorem Qr {a v}(h:w.cell? a=some v):a.spot=none∧a.block<w.heap.size∧qO w.heap a.block a.off=some v:=by
 unfold World.cell? at h;cases hb:w.heap[a.block]? with
 |none=>simp_all
 |some o=>
  rw[hb] at h;cases o with
  |cells c e z=>
   dsimp only at h;split at h
   ·cases h
   ·refine⟨by simp_all,?_,?_⟩
    ·grind
    ·unfold qO;simp_all
  |_=>cases h
theorem Qs {α:Type}{p:Nat→α→Prop}:∀n,(∀i,i<n→∃x,p i x)→∃xs:List α,xs.length=n∧∀i h,p i xs[i]
 |0,_=>by simp
 |n+1,h=>by
  obtain⟨xs,h1,h2⟩:=Qs n fun i hi=>h i (by omega)
  obtain⟨x,hx⟩:=h n (by omega);refine⟨xs++[x],by simp[h1],fun i hi=>?_⟩;grind
def wN (l:List Nat):Prop:=l.all (· ≤reachBytes)=true
theorem gV {l m}:wN (l++m)↔wN l∧wN m:=by simp[wN]
theorem Qt {P e}{d:DataW H}:∀{l},wN (DataW.weightsAll P e l)→d∈l→wN (d.weights P e)
 |a::l,h,hd=>by
  have h:=gV.1 h;rcases List.mem_cons.1 hd with rfl|hd
  ·exact h.1
  ·exact Qt h.2 hd
theorem Qu {P e}:∀{ts} {ds:List (DataW H)},(∀t∈ts,t=e)→wN (DataW.weightsAll P e ds)→wN (DataW.weightsEach P ts ds)
 |t::ts,d::ds,ht,h=>by
  have h:=gV.1 h;rw[ht t (by simp)];exact gV.2 ⟨h.1,Qu (by grind) h.2⟩
 |[],_,_,_=>by simp[DataW.weightsEach,wN]
 |_::_,[],_,_=>by rfl
def AI (P:Program)(w:World)(ty:Ty)(cs:List Value):Prop:=∃x:ty.den,cs.length=ty.size∧zT w.heap (vd w) ty x (fun j=>cs[j]?)∧Wf ty x
theorem Qv {d fuel}(ih:∀t ty cs x,gg P d t=some ty→DataW.trod enc P w 0 (fun _=>true) true fuel t cs=some x→wN (x.1.weights P t)→AI P w ty cs):
  ∀l off ty (cs:List Value) out,u9 (gg P d) off l=some ty→off+ty.size≤cs.length→
   (l.mapM fun p=>DataW.trod enc P w 0 (fun _=>true) true fuel p.2 ((cs.drop p.1).take (P.cellsOf p.2)))=some out→wN (DataW.weightsEach P (l.map (·.2)) (out.map (·.1)))→AI P w ty ((cs.drop off).take ty.size)
 |[x],off,ty,cs,out,h,hc,hm,hw=>by
  obtain⟨h1,h2⟩:=yL h;have ho:x.1=off:=by simpa using h1
  simp only[List.mapM_cons,List.mapM_nil,Option.pure_def,Option.bind_eq_bind,Option.bind_eq_some_iff] at hm;obtain⟨y,hy,_,e,e'⟩:=hm;cases e;cases e';rw[ho,Gc h2] at hy;exact ih _ _ _ _ h2 hy (gV.1 hw).1
 |x::y::l,off,ty,cs,out,h,hc,hm,hw=>by
  obtain⟨h1,h2⟩:=yL h;have ho:x.1=off:=by simpa using h1
  split at h2
  ·rename_i a ha;split at h2
   ·rename_i b hb;cases h2;simp only[Ty.size] at hc⊢;rw[List.mapM_cons] at hm;simp only[Option.pure_def,Option.bind_eq_bind,Option.bind_eq_some_iff] at hm;obtain⟨z,hz,zs,hzs,e⟩:=hm;cases e;rw[ho,Gc ha] at hz;have hw:=gV.1 hw;obtain⟨p,p1,p2,p3⟩:=ih _ _ _ _ ha hz hw.1;obtain⟨q,q1,q2,q3⟩:=Qv ih (y::l) (off+a.size) b cs zs hb (by omega) hzs hw.2;refine⟨(p,q),by simp only[List.length_take,List.length_drop,Ty.size];omega,⟨?_,?_⟩,p3,q3⟩
    ·refine qS (fun _ h=>h) (by simp) a p _ _ (fun j hj=>?_) p2;simp only[List.getElem?_take,List.getElem?_drop];rw[if_pos (by omega),if_pos hj]
    grind
   ·cases h2
  ·cases h2
theorem Gd:∀d t ty fuel cs x,gg P d t=some ty→DataW.trod enc P w 0 (fun _=>true) true fuel t cs=some x→wN (x.1.weights P t)→AI P w ty cs
 |0,_,_,_,_,_,h,_,_=>by cases h
 |d+1,t,ty,0,cs,x,_,h,_=>by simp[DataW.trod] at h
 |d+1,t,ty,fuel+1,cs,x,hl,h,hw=>by
  unfold gg at hl;split at hl
  ·rename_i k hu;obtain⟨_,hl⟩:=yL hl;cases hl;obtain⟨n,rfl,_,hw'⟩:=DataW.trod_int hu h;exact⟨n,rfl,rfl,hw'⟩
  ·rename_i hu;obtain⟨_,hl⟩:=yL hl;cases hl;obtain⟨b,rfl,_⟩:=DataW.trod_bool hu h;exact⟨b,rfl,rfl,trivial⟩
  ·rename_i e hu;obtain⟨dq,hl⟩:=yL hl;rw[Bool.and_eq_true] at dq;have dq:=Nat.le_of_ble_eq_true dq.2;split at hl
   ·rename_i a ha;cases hl;rcases DataW.trod_slice hu h with⟨rfl,_⟩|⟨ad,len,cap,elems,rest,n,hn,rfl,rfl,_,EJ,hm,hel,hg,_,_⟩
    ·refine⟨([]:List a.den),rfl,?_,?_⟩
     ·simp only[zT];exact⟨none,0,0,rfl,rfl,Nat.le_refl _,.inl ⟨trivial,fun _=>rfl⟩⟩
     ·simp only[Wf];exact by simp
    ·unfold DataW.weights at hw;rw[hu] at hw;have hw:wN ([((elems.map (·.1)).length+(rest.map (·.1)).length)*P.bytesOf e]++(DataW.weightsAll P e (elems.map (·.1))++DataW.weightsAll P e (rest.map (·.1)))):=hw;obtain⟨vf,hw⟩:=gV.1 hw;have hw2:=(gV.1 hw).1;have hlen:len≤reachBytes:=by
      simp only[wN,List.all_cons,List.all_nil,Bool.and_true,decide_eq_true_eq,List.length_map] at vf;have:=Nat.mul_le_mul_left (elems.length+rest.length) dq;omega
     have key:∀i,i<len→∃x:a.den,(zT w.heap (vd w) a x (fun j=>qO w.heap ad.block (ad.off+i*a.size+j))∧(i=0→ad.spot=none)∧ad.block<w.heap.size)∧Wf a x:=by
      intro i hi;have h1:=hg i hi;have FE:i<elems.length:=by omega
      rw[List.getElem?_eq_getElem FE,Option.bind_eq_some_iff] at h1;obtain⟨cs,kJ,htr⟩:=h1;rw[Gc ha] at kJ;obtain⟨y,y1,y2,y3⟩:=Gd d e a n cs _ ha htr (Qt hw2 (by grind));obtain⟨c1,c2⟩:=yLu kJ;have oh:∀j,((ad.add (i*a.size)).add j).block=ad.block∧((ad.add (i*a.size)).add j).off=ad.off+i*a.size+j:=by
       intro j;unfold Addr.add;constructor
       ·split<;>split<;>rfl
       ·split<;>split<;>simp_all
      have at0:(i=0→ad.spot=none)∧ad.block<w.heap.size:=by
       obtain⟨v,_,hv⟩:=c2 0 a.size_pos;have h1:=Qr hv;refine⟨fun h0=>?_,by have:=h1.2.1;rwa [(oh 0).1] at this⟩;have h2:=h1.1;subst h0
       simpa[Addr.add] using h2
      refine⟨y,⟨qS (fun _ h=>h) (fun _ _=>rfl) a y _ _ (fun j hj=>?_) y2,at0⟩,y3⟩;obtain⟨v,v1,v2⟩:=c2 j hj;rw[v1];have h1:=(Qr v2).2.2
      rwa [(oh j).1,(oh j).2] at h1
     obtain⟨xs,x1,x2⟩:=Qs len key;refine⟨xs,rfl,?_,?_⟩
     ·simp only[zT];refine⟨some ad,len,cap,rfl,x1.symm,EJ,?_⟩;by_cases h0:xs=[]
      ·exact by grind
      ·refine .inr ⟨ad.block,ad.off,?_,?_,fun i hi=>(x2 i hi).1.1⟩
       ·have:=(x2 0 (List.length_pos_iff.2 h0)).1.2.1 rfl;cases ad;simp at this;rw[this]
       ·exact by grind
     ·simp only[Wf];exact by grind
   ·cases hl
  ·rename_i y n1 n2 n3 hu;split at hl
   ·rename_i a ha;obtain⟨bZ,hl⟩:=yL hl;cases hl;have bZ:P.cellsOf t=ty.size:=by simpa using bZ
    have fin:∀out,cs.length=P.cellsOf t→((iY P y).mapM fun p=>DataW.trod enc P w 0 (fun _=>true) true fuel p.2 ((cs.drop p.1).take (P.cellsOf p.2)))=some out→wN (DataW.weightsEach P ((iY P y).map (·.2)) (out.map (·.1)))→AI P w ty cs:=by
     intro out hlen dE hw;have:=Qv (fun t' ty' ay x' h1 h2 h3=>Gd d t' ty' fuel ay x' h1 h2 h3) (iY P y) 0 ty cs out ha (by omega) dE hw
     rwa [List.drop_zero,List.take_of_length_le (by omega)] at this
    unfold DataW.trod at h;rw[hu] at h;cases y with
    |struct fs=>
     dsimp only at h;split at h
     ·rename_i hlen;rw[Option.map_eq_some_iff] at h;obtain⟨out,ho,rfl⟩:=h;unfold DataW.weights at hw;rw[hu] at hw;refine fin out hlen ?_ (by rw[iY,List.map_map];exact hw);simp only[iY,List.mapM_map];exact ho
     ·cases h
    |array n e=>
     dsimp only at h;split at h
     ·rename_i hlen;rw[Option.map_eq_some_iff] at h;obtain⟨out,ho,rfl⟩:=h;unfold DataW.weights at hw;rw[hu] at hw;refine fin out hlen ?_ (Qu (fun t ht=>by simp[iY] at ht;exact ht.2.symm) hw);simp only[iY,List.mapM_map];exact ho
     ·cases h
    |_=>simp[iY,u9] at ha
   ·cases hl
  ·cases hl
end
open Go.ChangeShapes Go.WideShapes Go.ChangeAt Go.RowKit
def kK (sh:Bool):Ty→List PC
 |.int k=>[.int k]
 |.bool=>[.bool]
 |.sl t=>[.dat sh t]
 |.pair a b=>kK sh a++kK sh b
def lZ:(l m:List PC)→PL l→PL m→PL (l++m)
 |[],_,_,e=>e
 |_::l,m,d,e=>(d.1,lZ l m d.2 e)
theorem Ge:∀l m d e,yG (l++m) (lZ l m d e)=yG l d++yG m e
 |[],_,_,_=>rfl
 |p::l,m,d,e=>by
  show rC p d.1::yG (l++m) (lZ l m d.2 e)=rC p d.1::(yG l d.2++yG m e);rw[Ge l m d.2 e]
def iZ sh:(t:Ty)→t.den→PL (kK sh t)
 |.int _,n=>(n,())
 |.bool,b=>(b,())
 |.sl _,xs=>(xs,())
 |.pair a b,p=>lZ _ _ (iZ sh a p.1) (iZ sh b p.2)
def WfP:(p:PC)→p.den→Prop
 |.int k,n=>(Lit.int k n).wf=true
 |.bool,_=>True
 |.dat _ t,xs=>Wf (.sl t) xs
 |.fn _,_=>True
 |.nil,_=>True
 |.nilp,_=>True
def kL:(l:List PC)→PL l→Prop
 |[],_=>True
 |p::l,d=>WfP p d.1∧kL l d.2
theorem Gf:∀l m d e,kL l d→kL m e→kL (l++m) (lZ l m d e)
 |[],_,_,_,_,h=>h
 |_::l,m,d,e,h,h'=>⟨h.1,Gf l m d.2 e h.2 h'⟩
theorem Gg sh:∀t x,Wf t x→kL (kK sh t) (iZ sh t x)
 |.int _,_,h
 |.bool,_,h
 |.sl _,_,h=>⟨h,trivial⟩
 |.pair a b,p,h=>Gf _ _ _ _ (Gg sh a p.1 h.1) (Gg sh b p.2 h.2)
theorem AJ:∀l d,(yG l d).length=l.length
 |[],_=>rfl
 |p::l,d=>by
  show(yG l d.2).length+1=l.length+1;rw[AJ l d.2]
def M0 (w:World):zE:=⟨fun _=>none,vd w,vd w,eE [],w.heap⟩
theorem yD8 w:Ok (M0 w) where
 obj:=nofun
 non:=fun _ _=>rfl
 disj:=fun i j oi oj Ci Cj b _ h=>by cases h
 own:=nofun
 GF:=fun _ h=>h
 Flt:=fun _ h=>h
theorem Gh sh {w}:∀t x cs,cs.length=t.size→zT w.heap (vd w) t x (fun j=>cs[j]?)→zG (zM (M0 w)) (yG (kK sh t) (iZ sh t x)) cs
 |.int k,n,cs,hl,h=>by
  match cs,hl with
  |[c],_=>
   have e:c=.int k n:=by simpa[zT] using h
   exact⟨e,trivial⟩
 |.bool,b,cs,hl,h=>by
  match cs,hl with
  |[c],_=>
   have e:c=.bool b:=by simpa[zT] using h
   exact⟨e,trivial⟩
 |.sl t,xs,cs,hl,h=>by
  match cs,hl with
  |[c],_=>
   refine⟨?_,trivial⟩;have h':=qS (F':=(bif sh then(M0 w).G else(M0 w).F)) (fun b h=>by cases sh<;>exact h) (fun b _=>rfl) (.sl t) xs (fun j=>[c][j]?) (fun _=>some c) (by grind) h;exact h'
 |.pair a b,p,cs,hl,h=>by
  have kM:cs.length=a.size+b.size:=hl;have h1:=Gh sh a p.1 (cs.take a.size) (by grind) (qS (fun _ h=>h) (by simp) a p.1 _ _ (by grind) h.1);have h2:=Gh sh b p.2 (cs.drop a.size) (by grind) (qS (by simp) (fun _ _=>rfl) b p.2 _ _ (by grind) h.2);show zG _ (yG (kK sh a++kK sh b) (lZ _ _ (iZ sh a p.1) (iZ sh b p.2))) cs;rw[Ge];have:=zG.append h1 h2;simp_all
def ja (sh : Bool) (P : Program) (t : TypeId) (ty : Ty) : AS := bif vI P t == some true then .agg (kK sh ty) else (match ty with
 |.int k=>.c (.int k)|.bool=>.c .bool|.sl t=>.c (.dat sh t)|.pair a b=>.agg (kK sh (.pair a b)))
def AK (P:Program):List TypeId→Option (List Ty)
 |[]=>some []
 |t::ts=>match gg P 8 t,AK P ts with
  |some a,some l=>some (a::l)
  |_,_=>none
def kN (sh:Bool)(P:Program):List TypeId→List Ty→List AS
 |t::ts,a::l=>ja sh P t a::kN sh P ts l
 |_,_=>[]
theorem ySc {P t ty}(h:gg P 8 t=some ty)(ha:(vI P t==some true)=false):(∃k,P.underlying t=some (.int k)∧ty=.int k)∨(P.underlying t=some .bool∧ty=.bool)∨∃e a,P.underlying t=some (.slice e)∧ty=.sl a:=by
 unfold gg at h;split at h
 ·grind
 ·grind
 ·grind
 ·rename_i x _ _ _ hu;split at h
  ·rename_i a hx;unfold vI at ha;rw[hu] at ha;cases x<;>first|(simp[iY,u9] at hx;done)|(cases ha)
  ·cases h
 ·cases h
section
variable {H:Type} {enc:TypeId×Value→H} {P:Program} {w:World}
theorem yKs sh {t ty v d ps base}(hl:gg P 8 t=some ty)(cP:Value.okWide P w .any base t v)(h:DataW.Trod enc P w 0 (fun _=>true) true t v d ps)(hw:wN (d.weights P t)):
  ∃x:PL (ja sh P t ty).cells,(∀n,zK (M0 w) ((ja sh P t ty).mk n (yG _ x)) v)∧(ja sh P t ty).boxes (yG _ x)=[]∧kL _ x:=by
 obtain⟨fuel,hf⟩:=h;obtain⟨x,x1,x2,x3⟩:=Gd 8 t ty fuel _ _ hl hf hw;have bW:=Gh sh ty x _ x1 x2;have rH:=Gg sh ty x x3;unfold ja;cases ha:(vI P t==some true) with
 |true=>
  refine⟨iZ sh ty x,fun n=>?_,rfl,rH⟩;have lH:vI P t=some true:=by simp_all
  have hv:∃cs,v=.agg cs:=by
   unfold vI at lH;unfold Value.okWide at cP;grind
  obtain⟨cs,rfl⟩:=hv;exact⟨cs,rfl,bW⟩
 |false=>
  rcases ySc hl ha with⟨k,hu,rfl⟩|⟨hu,rfl⟩|⟨e,a,hu,rfl⟩
  ·have hv:∃n,v=.int k n:=by
    simp[Value.okWide,Cell.okWide] at cP;cases v<;>simp_all[Cell.ok]
   obtain⟨n0,rfl⟩:=hv;exact⟨iZ sh _ x,fun n=>bW.1,rfl,rH⟩
  ·have hv:∃b,v=.bool b:=by
    simp[Value.okWide,Cell.okWide] at cP;cases v<;>simp_all[Cell.ok]
   obtain⟨b,rfl⟩:=hv;exact⟨iZ sh _ x,fun n=>bW.1,rfl,rH⟩
  ·obtain⟨ad,len,cap,rfl⟩:=okWide_slice hu cP;exact⟨iZ sh _ x,fun n=>bW.1,rfl,rH⟩
theorem Qw sh {base}:∀ts tys vs ds ps n,AK P ts=some tys→(∀(j:Nat) t v,ts[j]? =some t→vs[j]? =some v→Value.okWide P w .any base t v)→
  DataW.TrodAll enc P w 0 (fun _=>true) true ts vs ds ps→wN (DataW.weightsEach P ts ds)→∃x:AD (kN sh P ts tys),zG (zK (M0 w)) (eD (kN sh P ts tys) (yG _ x) n).1 vs∧(eD (kN sh P ts tys) (yG _ x) n).2=[]∧kL _ x
 |[],tys,vs,ds,ps,n,hl,cP,h,_=>by
  match vs,ds,h with
  |[],[],_=>exact⟨(),trivial,rfl,trivial⟩
 |t::ts,tys,vs,ds,ps,n,hl,cP,h,hw=>by
  unfold AK at hl;split at hl
  ·rename_i a l ha kM;cases hl
   match vs,ds,h with
   |v::vs,d::ds,h=>
    obtain⟨p,q,h1,h2,_⟩:=h;have hw:=gV.1 hw;obtain⟨x,x1,x2,x3⟩:=yKs sh ha (cP 0 t v rfl rfl) h1 hw.1;obtain⟨y,y1,y2,y3⟩:=Qw sh ts l vs ds q n kM (fun j t' v' h1 h2=>cP (j+1) t' v' h1 h2) h2 hw.2;refine⟨lZ _ _ x y,?_⟩;have e:yG ((kN sh P (t::ts) (a::l)).flatMap AS.cells) (lZ _ _ x y)=yG _ x++yG _ y:=Ge _ _ _ _;have ht:(yG _ x++yG _ y).take (ja sh P t a).cells.length=yG _ x:=by
     rw[List.take_append_of_le_length (by rw[AJ];omega),List.take_of_length_le (by rw[AJ];omega)]
    have hd:(yG _ x++yG _ y).drop (ja sh P t a).cells.length=yG _ y:=by
     rw[List.drop_append_of_le_length (by rw[AJ];exact by simp),List.drop_of_length_le (by grind),List.nil_append]
    rw[e];have em:eD (kN sh P (t::ts) (a::l)) (yG _ x++yG _ y) n=((ja sh P t a).mk n (yG _ x)::(eD (kN sh P ts l) (yG _ y) n).1,(eD (kN sh P ts l) (yG _ y) n).2):=by
     show((ja sh P t a).mk n _::_,(ja sh P t a).boxes _++_)=_;simp_all
    rw[em];exact⟨⟨x1 n,y1⟩,y2,Gf _ _ _ _ x3 y3⟩
  ·cases hl
theorem Qx {us}{gs:List (DataW H)}:∀{ts ds},ts.length=ds.length→wN (DataW.weightsEach P (ts++us) (ds++gs))→wN (DataW.weightsEach P ts ds)
 |[],[],_,_=>by rfl
 |t::ts,d::ds,hl,h=>gV.2 ⟨(gV.1 h).1,Qx (by simp_all) (gV.1 h).2⟩
theorem Qy:∀{ts vs ds ps},DataW.TrodAll enc P w 0 (fun _=>true) true ts vs ds ps→ts.length=ds.length
 |[],[],[],_,_=>rfl
 |_::_,_::_,_::_,_,⟨_,_,_,h,_⟩=>by rw[List.length_cons,List.length_cons,Qy h]
theorem lawArgs sh {base ts tys asp vs ds ps}(hl:AK P ts=some tys)(has:kN sh P ts tys=asp)
  (cP:∀(j:Nat) t v,ts[j]? =some t→vs[j]? =some v→Value.okWide P w .any base t v) (h:DataW.TrodAll enc P w 0 (fun _=>true) true ts vs ds ps) {us gs} (hw:wN (DataW.weightsEach P (ts++us) (ds++gs))):
  ∃x:AD asp,zG (zK (M0 w)) (eD asp (yG _ x) 0).1 vs∧(eD asp (yG _ x) 0).2=[]∧kL _ x:=by
 subst has;exact Qw sh ts tys vs ds ps 0 hl cP h (Qx (Qy h) hw)
theorem law_calls {E}(hE:wC E)(hS:jQ E.sums)(hm:E.P.follows .mixedOrders=true){A k pre f fn}(hf:E.P.funcs[f]? =some fn)(hL:∀c,fn.body=some c→yS E.P A pre 0 fn.ntmps c)
  {as d unpack} (hup:∀d,unpack d=d.1) (aF:dV E A k pre 0 fn (gQ as d).1 (gQ as d).2 (fb (.c .bool) unpack)=some true) (hb:(eD as (yG _ d) 0).2=[]) {vs} (hv:zG (zK (M0 w)) (eD as (yG _ d) 0).1 vs.toList):
  Calls E.P f vs w fun e w'=>e=.returned (.bool true)∧Below w.heap.size w w':=by
 have hh:(M0 w).h=(gQ as d).2:=by
  show eE []=eE (eD as (yG _ d) 0).2;rw[hb]
 refine Calls.mono (FQ hE hS hm hf hL aF (M:=M0 w) (w:=w) hh rfl (yD8 w) hv) fun e w' he=>?_
 cases e with
 |returned rv=>
  obtain⟨M',v,st,hK,_,hH,_,hg,_,hrv,o1,o2,o3,_⟩:=he;refine⟨?_,o1,o2,o3,?_,fun b hb=>?_⟩
  ·unfold fb at hK;split at hK
   ·rename_i r hr;unfold uX at hr;split at hr
    ·rename_i cs kJ;split at hr
     ·rename_i ay u qo;cases v with
      |c x=>
       cases kJ;have e1:ay=[x]:=by
        simp[RS.cells,RC.isFro,vV] at qo;simp_all
       subst e1;have qt:jP (zX st.h u) [.bool] [x]=some r:=hr;cases x with
       |bool b=>
        have e2:r=(b,()):=by simp[jP,gT] at qt;grind
        have:rv=.bool b:=hrv;grind
       |_=>simp[jP,gT] at qt
      |_=>cases kJ
     ·cases hr
    ·cases hr
   ·cases hK
  ·have:=hg.size;rw[hH] at this;exact this
  ·have:=hg.same b hb;rw[hH] at this;exact this
 |_=>simp_all
end
inductive XC where
 |p (c:PC)|own (t:Ty)|mat|map
 |link (j:Nat)
abbrev XC.den:XC→Type
 |.p c=>c.den|.own t=>List t.den|.mat=>List (List Int)|.map=>List (Int×Bool)|.link _=>Unit
def XC.lnk:XC→Option Nat
 |.link j=>some j
 |_=>none
def RC.lnk:RC→Option Nat
 |.link j=>some j
 |_=>none
def jb:List (Option Nat)→List Nat→List zN→Bool
 |none::l,ids,_::cs=>jb l ids cs
 |some j::l,ids,.ptr id 0::cs=>(match ids[j]? with|some k=>Nat.beq id k|none=>false)&&jb l ids cs
 |some _::_,_,_=>false
 |_,_,_=>true
def om:List (Option Nat)→List Nat→List zN→List zN
 |none::l,ids,c::cs=>c::om l ids cs
 |some j::l,ids,c::cs=>(match ids[j]? with|some id=>.ptr id 0|none=>c)::om l ids cs
 |_,_,cs=>cs
def Gj:List zN→Option Nat
 |[]=>none
 |.ptr id 0::_=>some id
 |_::l=>Gj l
def vg (h:Hp):Nat→Nat→Option (List Nat)
 |0,_=>none
 |1,id=>some [id]
 |n+2,id=>match rA h id with
  | some cells => (match Gj cells with
   |some id2=>(match vg h (n+1) id2 with|some l=>some (id::l)|none=>none)
   |none=>none)
  |none=>none
def eF:Nat→Nat→List Nat
 |_,0=>[]
 |n,m+1=>n::eF (n+1) m
abbrev XL:List XC→Type
 |[]=>Unit
 |c::l=>c.den×XL l
inductive AX where
 |c (x:XC)|agg (l:List PC)|ptr (io:Bool) (l:List XC)|fn (f:Nat) (aT:List (Bool×List XC))
 |chn (ls:List (List XC))
def AX.cells:AX→List XC
 |.c x=>[x]
 |.agg l=>l.map .p
 |.ptr _ l=>l
 |.fn _ aT=>aT.flatMap (·.2)
 |.chn ls=>ls.flatten
def AX.nb:AX→Nat
 |.ptr _ _=>1
 |.fn _ aT=>aT.length
 |.chn ls=>ls.length
 |_=>0
def AX.isChn:AX→Bool
 |.chn _=>true
 |_=>false
def rI (ls:List (List XC)):List (Bool×List XC):=ls.map fun l=>(true,l)
abbrev XD (l:List AX):Type:=XL (l.flatMap AX.cells)
def AX.looks:AX→Bool
 |.ptr _ _=>true
 |.fn _ _=>true
 |_=>false
def vh (l:List AX)(na:Nat):Bool:=l.zipIdx.all fun p=> !p.1.looks||Nat.blt p.2 na
def rJ (h:Hp)(io:Bool)(id:Nat):Option (List zN):=match io,h id with
 |true,some (.box true cells)=>some cells
 |false,some (.box _ cells)=>some cells
 |false,some (.robox cells)=>some cells
 |_,_=>none
def wX (h:Hp):List (Bool×List XC)→List Nat→Option (List zN×List (Bool×Nat))
 |[],[]=>some ([],[])
 |(io,l)::ls,id::ids=>match rJ h io id,wX h ls ids with
  |some cells,some (rest,bs)=>bif Nat.beq cells.length l.length then some (cells++rest,(io,id)::bs) else none
  |_,_=>none
 |_,_=>none
def AX.get (h:Hp):AX→zO→Option (List zN×List (Bool×Nat))
 |.c _,.c x=>some ([x],[])
 |.agg l,.agg xs=>bif Nat.beq xs.length l.length then some (xs,[]) else none
 |.ptr io l,.c (.ptr id 0)=>wX h [(io,l)] [id]
 |.fn f aT,.c (.fn g ids)=>bif Nat.beq f g then wX h aT ids else none
 |.chn ls,.c (.ptr id 0)=>match vg h ls.length id with
  |some ids=>wX h (rI ls) ids
  |none=>none
 |_,_=>none
def jI (h:Hp):List AX→List zO→Option (List zN×List (Bool×Nat))
 |[],[]=>some ([],[])
 |s::l,a::as=>match s.get h a,jI h l as with
  |some (cs,bs),some (ay,oq)=>some (cs++ay,bs++oq)
  |_,_=>none
 |_,_=>none
def vi (h:Hp):(x:XC)→zN→Option x.den
 |.p p,c=>kH h p c
 |.own t,.osl id none=>match h id with
  |some (.arr true s xs)=>wG s t xs
  |_=>none
 |.mat,.osl id none=>match h id with
  |some (.mat _ xs)=>some xs
  |_=>none
 |.map,.map id=>match h id with
  |some (.imap bQ)=>some bQ
  |_=>none
 |.link _,.ptr _ 0=>some ()
 |_,_=>none
def gW (h:Hp):(l:List XC)→List zN→Option (XL l)
 |[],[]=>some ()
 |x::l,c::cs=>match vi h x c,gW h l cs with
  |some d,some ds=>some (d,ds)
  |_,_=>none
 |_,_=>none
def vB:List XC→List zN→List Nat
 |.p _::l,_::cs=>vB l cs
 |.link _::l,_::cs=>vB l cs
 |_::l,.osl id _::cs=>id::vB l cs
 |_::l,.map id::cs=>id::vB l cs
 |_::l,_::cs=>vB l cs
 |_,_=>[]
def vj:List XC→List zN→List Nat
 |.p _::l,c::cs=>qX c++vj l cs
 |_::l,_::cs=>vj l cs
 |_,_=>[]
def yQ:Nat:=500
def wM:(l:List XC)→XL l→Nat→List zN×List Obj
 |[],_,_=>([],[])
 |.p p::l,d,n=>let r:=wM l d.2 n;(rC p d.1::r.1,r.2)
 |.own t::l,d,n=>let r:=wM l d.2 (n+1);(.osl n none::r.1,.arr true t d.1::r.2)
 |.mat::l,d,n=>let r:=wM l d.2 (n+1);(.osl n none::r.1,.mat 0 d.1::r.2)
 |.map::l,d,n=>let r:=wM l d.2 (n+1);(.map n::r.1,.imap d.1::r.2)
 |.link j::l,d,n=>let r:=wM l d.2 n;(.ptr j 0::r.1,r.2)
def vk:List (Bool×List XC)→List zN→List Obj
 |[],_=>[]
 |(io,l)::ls,cs=>(bif io then .box true (cs.take l.length) else .robox (cs.take l.length))::vk ls (cs.drop l.length)
def AX.mk (n:Nat)(cs:List zN):AX→zO
 |.c _=>match cs with|x::_=>.c x|[]=>.undef
 |.agg _=>.agg cs
 |.ptr _ _=>.c (.ptr n 0)
 |.fn f aT=>.c (.fn f ((List.range aT.length).map (n+·)))
 |.chn _=>.c (.ptr n 0)
def AX.boxes (cs:List zN):AX→List Obj
 |.ptr io l=>vk [(io,l)] cs
 |.fn _ aT=>vk aT cs
 |.chn ls=>vk (rI ls) cs
 |_=>[]
def ot:List AX→List zN→Nat→List zO×List Obj
 |[],_,_=>([],[])
 |s::l,cs,n=>
  let ah:=cs.take s.cells.length;let bs:=s.boxes ah;let rest:=ot l (cs.drop s.cells.length) (n+bs.length)
  (s.mk n ah::rest.1,bs++rest.2)
def vl (bs rows:List Obj):Hp:=fun n=>bif Nat.ble yQ n then rows[n-yQ]? else bs[n]?
def gX l (d:XD l):List zO×Hp:=
 let r:=wM (l.flatMap AX.cells) d yQ;let m:=ot l r.1 0
 (m.1,vl m.2 r.2)
def vm:List (Bool×List XC)→List Nat→Option (List Nat)
 |[],[]=>some []
 |(io,_)::ls,id::ids=>match vm ls ids with
  |some l=>some (bif io then id::l else l)
  |none=>none
 |_,_=>none
def AX.io (b:Nat):AX→zO→Option (List Nat)
 |.c _,_=>some []
 |.agg _,_=>some []
 |.ptr io l,.c (.ptr id 0)=>vm [(io,l)] [id]
 |.fn _ aT,.c (.fn _ ids)=>vm aT ids
 |.chn ls,_=>some (eF b ls.length)
 |_,_=>none
def AL:List AX→(Nat→zO)→Nat→Nat→Option (List Nat)
 |[],_,_,_=>some []
 |s::l,t,n,b=>match s.io b (t n),AL l t (n+1) (b+s.nb) with
  |some a,some b=>some (a++b)
  |_,_=>none
def rK (h:Hp):List (List RC)→List Nat→Option (List zN)
 |[],[]=>some []
 |o::os,n::ns=>match h n,rK h os ns with
  |some (.box true cells),some rest=>bif Nat.beq cells.length o.length then some (cells++rest) else none
  |_,_=>none
 |_,_=>none
def Gk (h:Hp)(ns:Nat)(cs:List zN):Option (List Nat):=bif Nat.beq ns 0 then some [] else match Gj cs with
 |some id=>vg h ns id
 |none=>none
def rL (st:St)(as:List AX)(rs:RS)(os:List (List RC))(ns:Nat)(v:zO):Option (RL (rs.cells++os.flatten)):=
 match AL as st.t 0 0 with
 |none=>none
 |some io=>match rs.get v with
  |none=>none
  |some cs=>match Gk st.h ns cs with
   |none=>none
   |some nw=>match rK st.h os (io++nw) with
    |none=>none
    | some bs => bif kf (io ++ nw) then (match vV st.h ((rs.cells++os.flatten).map RC.isFro) (cs++bs) with
     |some (cs,u)=>bif kf (yJ (rs.cells++os.flatten) cs)&&jb ((rs.cells++os.flatten).map RC.lnk) (io++nw) cs then jP (zX st.h u) (rs.cells++os.flatten) cs else none
     |none=>none) else none
def vn (as:List AX)(rs:RS)(os:List (List RC))(ns:Nat){X:Type}(unpack:RL (rs.cells++os.flatten)→X)(v:zO)(st:St):Option X:=match rL st as rs os ns v with
 |some d=>some (unpack d)
 |none=>none
def l9:List (List RC)→List zN→List (List zN)
 |[],_=>[]
 |o::os,cs=>cs.take o.length::l9 os (cs.drop o.length)
def qZ:List (Bool×Nat)→List Nat
 |[]=>[]
 |(true,id)::l=>id::qZ l
 |(false,_)::l=>qZ l
def AM:List (Bool×Nat)→List Nat
 |[]=>[]
 |(true,_)::l=>AM l
 |(false,id)::l=>id::AM l
def rM:List Nat→List (List zN)→qV
 |id::ids,cs::css=>(id,.box true cs)::rM ids css
 |_,_=>[]
def gY (ids:List Nat):qV:=ids.map fun id=>(id,.gone)
def yOq (nm:Nat)(rs:RS)(os:List (List RC))(ids:List Nat)(d:RL (rs.cells++os.flatten)):zO×qV:=
 let r:=ga nm (rs.cells++os.flatten) d;let cs:=om ((rs.cells++os.flatten).map RC.lnk) ids r.1
 (rs.mk (cs.take rs.cells.length),r.2++rM ids (l9 os (cs.drop rs.cells.length)))
def Gl (a b:List Nat):Bool:=a.all fun x=> !b.any (Nat.beq x)
def ma (h:Hp):AX→zO→Option (zO×qV)
 |.c (.p p),.c x=>match vV h [p.isKept] [x] with
  |some ([x],u)=>some (.c x,u)
  |_=>none
 |.agg l,.agg xs=>match vV h (l.map PC.isKept) xs with
  |some (xs,u)=>some (.agg xs,u)
  |none=>none
 |_,a=>some (a,[])
def jc (h:Hp):List AX→List zO→Option (List zO×qV)
 |s::l,a::as=>match ma h s a,jc h l as with
  |some (a,u),some (as,us)=>some (a::as,u++us)
  |_,_=>none
 |_,as=>some (as,[])
def rN as (nm n:Nat)(args:List zO)(h:Hp):Option (qV×List Nat×List Nat×XD as):=
 match jc h as args with
 |none=>none
 |some (args,u)=>match jI (zX h u) as args with
  |none=>none
  |some (cs,bs)=>match gW (zX h u) (as.flatMap AX.cells) cs with
   |none=>none
   |some d=>
    let rows:=vB (as.flatMap AX.cells) cs;let ah:=qZ bs++rows
    bif lS h nm n&&Nat.ble n 100&&Nat.ble bs.length yQ&&kf ah&&Gl ah (vj (as.flatMap AX.cells) cs)&&Gl ah (AM bs)&&jb ((as.flatMap AX.cells).map XC.lnk) (bs.map (·.2)) cs then
     some (u,qZ bs,rows,d)
    else none
def Gm (u:qV)(io rows:List Nat)(rs:RS)(os:List (List RC))(ns nm:Nat)(d:RL (rs.cells++os.flatten)):zO×qV:=
 let r:=yOq nm rs os (io++eF (nm+(rs.cells++os.flatten).length) ns) d
 (r.1,u++(gY rows++r.2))
def je as (rs:RS)(os:List (List RC))(ns:Nat){X}(S:XD as→Option X)(pack:X→RL (rs.cells++os.flatten))(nm:Nat)(args:List zO)(h:Hp):qQ:=
 match rN as nm ((rs.cells++os.flatten).length+ns) args h with
 |none=>.stuck
 |some (u,io,rows,d)=>.call X (S d) fun r=>Gm u io rows rs os ns nm (pack r)
def jY (M:zE)(ah:List Nat)(b:Nat):Prop:=∃id∈ah,∃C,M.κ id=some C∧b∈C.fp
structure jg (M:zE) (ah:List Nat) (Ml:zE):Prop where
 H:Ml.H=M.H
 F:Ml.F=fun b=>b<M.H.size∧¬jY M ah b
 G:Ml.G=M.G
def fH (M:zE)(ah:List Nat):Prop:=∀id∈ah,∃o,M.h id=some o∧o.owned=true
theorem jY.own {M ah}(ho:fH M ah){b}(h:jY M ah b):qC M b:=by
 obtain⟨id,ab,C,hC,hb⟩:=h;obtain⟨o,h1,h2⟩:=ho id ab;exact⟨id,o,C,h1,h2,hC,hb⟩
theorem kO {M}(ok:Ok M){ah}(ho:fH M ah){b}(h:M.F b):b<M.H.size∧¬jY M ah b:=⟨ok.Flt b h,fun hh=>(ok.own b (hh.own ho)).1 h⟩
theorem Qz {M M'}(ok:Ok M){ah}(ho:fH M ah){id o}(hn:id∉ah)(hh:M'.h=qH M.h id o)(hκ:M'.κ=M.κ)(hH:M'.H=M.H)(dC:Ok M'){b}(h:M'.G b):b<M.H.size∧¬jY M ah b:=by
 have hf:=dC.GF b h;refine⟨by have:=dC.Flt b hf;simp_all,fun hd=>?_⟩;obtain⟨jd,hj,C,hC,hb⟩:=hd;obtain⟨q,h1,h2⟩:=ho jd hj;refine(dC.own b ⟨jd,q,C,?_,h2,?_,hb⟩).1 hf
 ·rw[hh,qN _ _ (by grind)];exact h1
 simp_all
theorem yM0 {M}(ok:Ok M){ah}(ho:fH M ah){c v t xs}(hn:∀id∈qX c,id∉ah)(hv:zM M c v)(h:jM M.h c=some ⟨t,xs⟩):
  zT M.H (fun b=>b<M.H.size∧¬jY M ah b) (.sl t) xs (fun _=>some v):=by
 unfold jM at h;split at h
 ·rename_i sh s ys;cases h;cases sh with
  |true=>exact qS (fun b hb=>kO ok ho (ok.GF b hb)) (by simp) _ _ _ _ (fun _ _=>rfl) hv
  |false=>exact qS (fun b hb=>kO ok ho hb) (by simp) _ _ _ _ (fun _ _=>rfl) hv
 ·rename_i id r;have gH:id∉ah:=hn id (by simp[qX]);split at h
  ·rename_i own s ys ab;cases h;cases own with
   |false=>
    obtain⟨C,hC,hO⟩:=ok.obj _ _ ab;exact qS (fun b hb=>kO ok ho (ok.GF b hb)) (by simp) _ _ _ _ (by simp) (ny hC hO hv)
   |true=>
    obtain⟨M',h1,h2,h3,h4,h5⟩:=N8 ok ab;obtain⟨C,hC,hO⟩:=h3.obj id _ (by rw[h2];exact qM _ _ _);have:=ny hC hO (hv.ext h4.ext);exact qS (fun b hb=>Qz ok ho gH h2 h5 h1 h3 hb) (by grind) _ _ _ _ (by simp) this
  ·rename_i ver ys ab;cases r with
   |some p=>cases h
   |none=>
    cases h;obtain⟨M',h1,h2,h3,h4,h5⟩:=Oa ok ab;obtain⟨C,hC,hO⟩:=h3.obj id _ (by rw[h2];exact qM _ _ _);have:=ny (r:=none) hC hO (hv.ext h4.ext);exact qS (fun b hb=>Qz ok ho gH h2 h5 h1 h3 hb) (by grind) _ _ _ _ (by simp) this
  ·cases h
 ·rename_i id i ver;have gH:id∉ah:=hn id (by simp[qX]);split at h
  ·rename_i v' ys ab;cases cJ:Nat.beq v' ver with
   |false=>rw[cJ] at h;cases h
   |true=>
    rw[cJ] at h;cases h;have e:v'=ver:=by simpa using cJ
    subst e;obtain⟨C,hC,hO⟩:=ok.obj _ _ ab;obtain⟨C',aj,bC,_,aO⟩:=hv;rw[hC] at aj;cases aj;obtain⟨rb,rl,nP,iR⟩:=aO hO.1;by_cases hi:i<ys.length
    ·obtain⟨B,gI,v2,k1,k2,k3,k4,k5,k6⟩:=qh hO hi;rw[nP] at k3;cases k3;rw[show ys.getD i []=ys[i] by simp[List.getD,hi]];simp only[zT];cases rb with
     |none=>
      obtain⟨rfl,h0⟩:=iR;grind
     |some R=>
      obtain⟨a,c,rfl,h1,h2,h3⟩:=iR;refine⟨_,_,c,rfl,rfl,h1,?_⟩;by_cases h0:ys[i].length=0
      ·simp_all
      ·have ha:a=0:=by omega
       subst ha;have hR:R∈C.fp:=by
        simp only[zS.fp,List.mem_append,List.mem_filterMap];grind
       refine .inr ⟨R,0,rfl,⟨?_,fun hd=>?_⟩,fun j hj=>?_⟩
       ·have:=k6 R rfl 0 (by omega);unfold qO at this;grind
       ·obtain⟨jd,hj,D,hD,hb⟩:=hd;obtain⟨q,q1,q2⟩:=ho jd hj;exact ok.disj jd id q _ D C R (by grind) q1 ab q2 rfl hD hC hb hR
       ·simp only[zT,Ty.size,Nat.zero_add,Nat.mul_one,Nat.add_zero];exact by grind
    ·have:C.rows[i]? =none:=List.getElem?_eq_none (by have:=hO.2.2.2.1;omega);simp_all
  ·cases h
 ·cases h
def TrX (M:zE)(ah:List Nat)(c c':zN):Prop:=∀v Ml,jg M ah Ml→zM M c v→zM Ml c' v
theorem yKb {M}(ok:Ok M){ah}(ho:fH M ah){p c d}(hn:∀id∈qX c,id∉ah)(h:kH M.h p c=some d):TrX M ah c (rC p d):=by
 intro v Ml lo hv;unfold kH at h;split at h
 ·rename_i k j n;cases e:vY j k with
  |false=>simp_all
  |true=>rw[e] at h;cases h;rw[←ka e];exact hv
 ·cases h;exact hv
 ·show zT Ml.H Ml.F _ _ _;rw[lo.H,lo.F];unfold n9 at h;split at h
  ·cases h;rw[show v=.slice none 0 0 from hv];exact uY
  ·split at h
   ·rename_i s ys hr;obtain⟨e,hx⟩:=dM h;subst e;subst hx;exact yM0 ok ho hn hv hr
   ·cases h
 ·obtain⟨e,hx⟩:=dM h;subst e;subst hx;show zT Ml.H Ml.G _ _ _;rw[lo.H,lo.G];exact hv
 ·cases h;rw[show v=.slice none 0 0 from hv];exact uY
 ·rename_i f g;cases e:Nat.beq f g with
  |false=>simp_all
  |true=>
   have:f=g:=by simp_all
   subst this;obtain⟨cv,rfl,hc⟩:=hv;refine⟨cv,rfl,?_⟩;generalize cv.toList=l at hc;cases l with
   |nil=>trivial
   |cons _ _=>exact hc.elim
 ·exact hv
 ·exact hv
 ·cases h
def jh (M:zE)(ah:List Nat)(κ:Nat→Option zS)(c c':zN):Prop:=∀v Ml,jg M ah Ml→Ml.κ=κ→zM M c v→zM Ml c' v
structure yD3 (M:zE) (id:Nat) (o:Obj) (C:zS):Prop where
 κ:M.κ id=some C
 rep:∀Ml:zE,Ml.H=M.H→Ml.G=M.G→qR Ml o {C with ver:=0}
 own:o.owned=true
 was:∃q,M.h id=some q∧q.owned=true
theorem yCw {M Ml}(hH:Ml.H=M.H){bQ C}(h:qR M (.imap bQ) C):qR Ml (.imap bQ) {C with ver:=0}:=by
 obtain⟨B,es,ck,h1,h2,h3,h4,h5⟩:=h;exact⟨B,es,ck,h1,h2,by simp_all,h4,h5⟩
theorem QA {j l ids c cs}(h:jb (some j::l) ids (c::cs)=true):∃id,c=.ptr id 0∧ids[j]? =some id∧jb l ids cs=true:=by
 cases c with
 |ptr id off=>
  cases off with
  |zero=>
   have h:((match ids[j]? with|some k=>Nat.beq id k|none=>false)&&jb l ids cs)=true:=h;rw[Bool.and_eq_true] at h;have h1:=h.1;split at h1;all_goals simp_all
  |succ _=>cases h
 |_=>cases h
theorem rO {M}(ok:Ok M){ah}(ho:fH M ah){κ}:∀{l cs d n ids},gW M.h l cs=some d→jb (l.map XC.lnk) ids cs=true→(∀id∈vj l cs,id∉ah)→
  (vB l cs).length=(wM l d n).2.length∧(∀(i:Nat) id o,(vB l cs)[i]? =some id→(wM l d n).2[i]? =some o→∃C,yD3 M id o C)∧
   ((∀i id C,(vB l cs)[i]? =some id→M.κ id=some C→κ (n+i)=some {C with ver:=0})→(∀j id,ids[j]? =some id→κ j=M.κ id)→zG (jh M ah κ) cs (wM l d n).1)
 |[],[],_,n,_,_,_,_=>⟨rfl,nofun,fun _ _=>trivial⟩
 |x::l,c::cs,d,n,ids,h,hl,hn=>by
  unfold gW at h;split at h
  ·rename_i y ys h1 h2;cases h;cases x with
   |p p=>
    have kP:∀id∈qX c,id∉ah:=fun id ab=>hn id (List.mem_append_left _ ab)
    obtain⟨k1,k2,k3⟩:=rO ok ho (κ:=κ) (n:=n) (ids:=ids) h2 hl (fun id ab=>hn id (List.mem_append_right _ ab));exact⟨k1,k2,fun hκ hj=>⟨fun v Ml lo _ hv=>yKb ok ho kP h1 v Ml lo hv,k3 hκ hj⟩⟩
   |own t=>
    cases c with
    |osl id r=>
     cases r with
     |some _=>cases h1
     |none=>
      have h1:(match M.h id with|some (.arr true s xs)=>wG s t xs|_=>none)=some y:=h1;split at h1
      ·rename_i s xs ab;obtain⟨e,hx⟩:=dM h1;subst e;subst hx;obtain⟨C,hC,hO⟩:=ok.obj id _ ab;obtain⟨k1,k2,k3⟩:=rO ok ho (κ:=κ) (n:=n+1) (ids:=ids) h2 hl hn;refine⟨by simp only[vB,wM,List.length_cons,k1],fun i jd o hi fy=>?_,fun hκ hj=>⟨fun v Ml lo hk hv=>?_,k3 (fun i jd D hi hD=>?_) hj⟩⟩
       ·cases i with
        |zero=>
         cases hi;cases fy;refine⟨C,hC,fun Ml e1 e2=>?_,rfl,_,ab,rfl⟩;obtain⟨q1,q2,q3,q4⟩:=hO;refine⟨q1,q2,q3,?_⟩;rw[e1,e2];exact q4
        |succ i=>exact k2 i jd o hi fy
       ·obtain⟨D,hD,hS⟩:=hv;rw[hC] at hD;cases hD;refine⟨{C with ver:=0},by rw[hk];exact hκ 0 id C rfl hC,?_⟩;rw[lo.H];exact hS
       ·have:=hκ (i+1) jd D hi hD;rw[←this];congr 1;omega
      ·cases h1
    |_=>cases h1
   |mat=>
    cases c with
    |osl id r=>
     cases r with
     |some _=>cases h1
     |none=>
      have h1:(match M.h id with|some (.mat _ xs)=>some xs|_=>none)=some y:=h1;split at h1
      ·rename_i ver xs ab;cases h1;obtain⟨C,hC,hO⟩:=ok.obj id _ ab;obtain⟨k1,k2,k3⟩:=rO ok ho (κ:=κ) (n:=n+1) (ids:=ids) h2 hl hn;refine⟨by simp only[vB,wM,List.length_cons,k1],fun i jd o hi fy=>?_,fun hκ hj=>⟨fun v Ml lo hk hv=>?_,k3 (fun i jd D hi hD=>?_) hj⟩⟩
       ·cases i with
        |zero=>
         cases hi;cases fy;refine⟨C,hC,fun Ml e1 e2=>?_,rfl,_,ab,rfl⟩;obtain⟨q1,q2⟩:=hO;refine⟨rfl,?_⟩;rw[e1];exact q2
        |succ i=>exact k2 i jd o hi fy
       ·obtain⟨D,hD,hS⟩:=hv;rw[hC] at hD;cases hD;refine⟨{C with ver:=0},by rw[hk];exact hκ 0 id C rfl hC,?_⟩;show yY Ml.H {C with ver:=0} 0 C.len v;rw[lo.H];exact hS
       ·have:=hκ (i+1) jd D hi hD;rw[←this];congr 1;omega
      ·cases h1
    |_=>cases h1
   |map=>
    cases c with
    |map id=>
     have h1:(match M.h id with|some (.imap bQ)=>some bQ|_=>none)=some y:=h1;split at h1
     ·rename_i bQ ab;cases h1;obtain⟨C,hC,hO⟩:=ok.obj id _ ab;obtain⟨k1,k2,k3⟩:=rO ok ho (κ:=κ) (n:=n+1) (ids:=ids) h2 hl hn;refine⟨by simp only[vB,wM,List.length_cons,k1],fun i jd o hi fy=>?_,fun hκ hj=>⟨fun v Ml lo hk hv=>?_,k3 (fun i jd D hi hD=>?_) hj⟩⟩
      ·cases i with
       |zero=>
        cases hi;cases fy;exact⟨C,hC,fun Ml e1 e2=>yCw e1 hO,rfl,_,ab,rfl⟩
       |succ i=>exact k2 i jd o hi fy
      ·obtain⟨D,B,hD,hB,e⟩:=hv;rw[hC] at hD;cases hD;exact⟨{C with ver:=0},B,by rw[hk];exact hκ 0 id C rfl hC,hB,e⟩
      ·have:=hκ (i+1) jd D hi hD;rw[←this];congr 1;omega
     ·cases h1
    |_=>cases h1
   |link j=>
    obtain⟨id,rfl,ab,kM⟩:=QA hl;obtain⟨k1,k2,k3⟩:=rO ok ho (κ:=κ) (n:=n) (ids:=ids) h2 kM hn;refine⟨k1,k2,fun hκ hj=>⟨fun v Ml lo hk hv=>?_,k3 hκ hj⟩⟩;obtain⟨C,B,hC,hB,e⟩:=hv;exact⟨C,B,by rw[hk,hj j id ab];exact hC,hB,e⟩
  ·cases h
 |[],_::_,_,_,_,h,_,_=>by cases h
 |_::_,[],_,_,_,h,_,_=>by cases h
theorem vp {M Ml ah}(lo:jg M ah Ml):∀{cs ay vs},zG (jh M ah Ml.κ) cs ay→zG (zM M) cs vs→zG (zM Ml) ay vs
 |[],[],[],_,_=>trivial
 |_::_,_::_,_::_,h,k=>⟨h.1 _ _ lo rfl k.1,vp lo h.2 k.2⟩
def rP (ah:List Nat)(bs:List (Bool×Nat)):Prop:=∀b∈bs,(b.1=true→b.2∈ah)∧(b.1=false→b.2∉ah)
theorem yOg {M}(ok:Ok M){ah}(ho:fH M ah){io id cells}(h:rJ M.h io id=some cells)(hm:(io=true→id∈ah)∧(io=false→id∉ah)):
  ∃C B,M.κ id=some C∧C.blk=some B∧∀Ml aZ,jg M ah Ml→zG (jh M ah Ml.κ) cells aZ→qR Ml (bif io then .box true aZ else .robox aZ) C:=by
 unfold rJ at h;split at h
 ·rename_i cs ab;cases h;obtain⟨C,hC,B,vals,e,h1,h2,h3,h4,h5⟩:=ok.obj id _ ab;exact⟨C,B,hC,h1,fun Ml aZ lo ht=>⟨B,vals,e,h1,h2,by rw[lo.H];exact h3,vp lo ht h4,by simp⟩⟩
 ·rename_i own cs ab;cases h;obtain⟨C,hC,B,vals,e,h1,h2,h3,h4,h5⟩:=ok.obj id _ ab;refine⟨C,B,hC,h1,fun Ml aZ lo ht=>⟨B,vals,e,h1,h2,by rw[lo.H];exact h3,vp lo ht h4,?_⟩⟩;rw[lo.F];cases own with
  |false=>exact kO ok ho (ok.GF B (h5 rfl))
  |true=>
   refine⟨by grind,fun hd=>?_⟩;obtain⟨jd,hj,D,hD,hb⟩:=hd;obtain⟨q,q1,q2⟩:=ho jd hj;exact ok.disj jd id q _ D C B (by grind) q1 ab q2 rfl hD hC hb (by simp[zS.fp,h1])
 ·rename_i cs ab;cases h;obtain⟨C,hC,B,vals,e,h1,h2,h3,h4,h5⟩:=ok.obj id _ ab;refine⟨C,B,hC,h1,fun Ml aZ lo ht=>⟨B,vals,e,h1,h2,by rw[lo.H];exact h3,vp lo ht h4,?_⟩⟩;rw[lo.F];exact kO ok ho h5
 ·cases h
def Gn (M:zE)(ah:List Nat)(bs:List (Bool×Nat))(mk:List zN→List Obj)(cs:List zN):Prop:=∀(Ml:zE) (ay:List zN),jg M ah Ml→zG (jh M ah Ml.κ) cs ay→
 zG (fun(b:Bool×Nat) o=>∃C B,M.κ b.2=some C∧C.blk=some B∧qR Ml o C∧o.owned=b.1) bs (mk ay)
theorem AN {M}(ok:Ok M){ah}(ho:fH M ah):∀{ls ids cs bs},wX M.h ls ids=some (cs,bs)→rP ah bs→
  cs.length=(ls.flatMap (·.2)).length∧bs=(ls.map (·.1)).zip ids∧ids.length=ls.length∧Gn M ah bs (vk ls) cs
 |[],[],cs,bs,h,_=>by cases h;exact⟨rfl,rfl,rfl,fun _ _ _ _=>trivial⟩
 |(io,l)::ls,id::ids,cs,bs,h,hf=>by
  unfold wX at h;split at h
  ·rename_i cells rest oq h1 h2;obtain⟨hl,h⟩:=yL h;cases h;have hl:cells.length=l.length:=Nat.eq_of_beq_eq_true hl;obtain⟨C,B,hC,hB,hO⟩:=yOg ok ho h1 (hf _ (List.mem_cons_self ..));obtain⟨k1,k2,k3,k4⟩:=AN ok ho h2 fun b hb=>hf b (by grind)
   refine⟨by simp_all,by simp_all,by simp[k3],fun Ml ay lo ht=>?_⟩;have gd:=zG.take l.length ht;have fF:=zG.drop l.length ht;rw[←hl,List.drop_left] at fF;refine⟨⟨C,B,hC,hB,?_,?_⟩,?_⟩
   ·simp_all
   ·cases io<;>rfl
   ·rw[←hl];exact k4 Ml _ lo fF
  ·cases h
theorem vq {h}:∀{ls ids cs bs},wX h ls ids=some (cs,bs)→bs.length=ls.length
 |[],[],_,_,e=>by cases e;rfl
 |(io,l)::ls,id::ids,cs,bs,e=>by
  unfold wX at e;split at e
  ·rename_i cells rest oq h1 h2;obtain⟨_,e⟩:=yL e;cases e;simp[vq h2]
  ·cases e
theorem yI9 {h}{s:AX}{a cs bs}(e:s.get h a=some (cs,bs)):bs.length=s.nb:=by
 unfold AX.get at e;split at e
 ·cases e;rfl
 ·obtain⟨_,e⟩:=yL e;cases e;rfl
 ·rw[vq e];rfl
 ·obtain⟨_,e⟩:=yL e;rw[vq e];rfl
 ·split at e
  ·rw[vq e];simp[rI,AX.nb]
  ·cases e
 ·cases e
theorem Gp {h}:∀{n id ids},vg h n id=some ids→ids.head? =some id∧ids.length=n
 |1,_,_,e=>by cases e;simp
 |n+2,id,ids,e=>by
  unfold vg at e;split at e
  ·split at e
   ·split at e
    ·rename_i l hl;cases e;exact⟨rfl,by simp[(Gp hl).2]⟩
    ·cases e
   ·cases e
  ·cases e
theorem yR4 {M}(ok:Ok M){ah}(ho:fH M ah){s:AX}{a v cs bs}(hv:zK M a v)(h:s.get M.h a=some (cs,bs))(hf:rP ah bs):
  cs.length=s.cells.length∧Gn M ah bs (fun ay=>s.boxes ay) cs∧∀Ml ay n,jg M ah Ml→zG (jh M ah Ml.κ) cs ay→(∀i b,bs[i]? =some b→Ml.κ (n+i)=M.κ b.2)→zK Ml (s.mk n ay) v:=by
 unfold AX.get at h;split at h
 ·cases h;refine⟨rfl,fun Ml ay lo ht=>trivial,fun Ml ay n lo ht _=>?_⟩
  match ay,ht with
  |[c'],ht=>exact ht.1 v Ml lo rfl hv
 ·rename_i l xs;obtain⟨hl,h'⟩:=yL h;cases h';have hl:cs.length=l.length:=Nat.eq_of_beq_eq_true hl;obtain⟨vs,rfl,hx⟩:=hv;exact⟨by simp[AX.cells,hl],fun Ml ay lo ht=>trivial,fun Ml ay n lo ht _=>⟨vs,rfl,vp lo ht hx⟩⟩
 ·rename_i io l id;obtain⟨k1,k2,k3,k4⟩:=AN ok ho h hf;refine⟨by rw[k1];simp[AX.cells],k4,fun Ml ay n lo ht hκ=>?_⟩;obtain⟨C,B,hC,hB,e⟩:=hv;exact⟨C,B,by have:=hκ 0 (io,id) (by rw[k2];rfl);simp_all,hB,e⟩
 ·rename_i f aT g ids;obtain⟨hg,h'⟩:=yL h;have FY:f=g:=Nat.eq_of_beq_eq_true hg;subst FY;obtain⟨k1,k2,k3,k4⟩:=AN ok ho h' hf;refine⟨by rw[k1];rfl,k4,fun Ml ay n lo ht hκ=>?_⟩;obtain⟨cv,rfl,hc⟩:=hv;refine⟨cv,rfl,?_⟩;have l2:=hc.length;refine zG.of_get (by simp_all) fun i h1 h2=>?_
  have hi:i<ids.length:=by omega
  obtain⟨C,B,q1,q2,q3⟩:=hc.get i hi h2;have hb:bs[i]? =some ((aT.map (·.1))[i]'(by simp at h1⊢;omega),ids[i]):=by
   grind
  grind
 ·rename_i ls id;split at h
  ·rename_i ids ew;obtain⟨k1,k2,k3,k4⟩:=AN ok ho h hf;refine⟨by rw[k1];simp[AX.cells,rI,List.flatMap_map],k4,fun Ml ay n lo ht hκ=>?_⟩;obtain⟨C,B,hC,hB,e⟩:=hv;have hb:bs[0]? =some (true,id):=by
    obtain⟨h1,h2⟩:=Gp ew;rw[k2];cases ids with
    |nil=>cases h1
    |cons i ids=>
     cases h1;cases ls with
     |nil=>cases k3
     |cons l ls=>rfl
   exact⟨C,B,by grind,hB,e⟩
  ·cases h
 ·cases h
theorem QB {M}(ok:Ok M){ah}(ho:fH M ah):∀{l as vs cs bs},zG (zK M) as vs→jI M.h l as=some (cs,bs)→rP ah bs→
  cs.length=(l.flatMap AX.cells).length∧(∀n,Gn M ah bs (fun ay=>(ot l ay n).2) cs)∧
   ∀Ml ay n,jg M ah Ml→zG (jh M ah Ml.κ) cs ay→(∀i b,bs[i]? =some b→Ml.κ (n+i)=M.κ b.2)→zG (zK Ml) (ot l ay n).1 vs
 |[],[],[],cs,bs,_,h,_=>by cases h;exact⟨rfl,fun _ _ _ _ _=>trivial,fun _ _ _ _ _ _=>trivial⟩
 |s::l,a::as,v::vs,cs,bs,hv,h,hf=>by
  unfold jI at h;split at h
  ·rename_i eX QC QD bs2 h1 h2;cases h;have hf1:rP ah QC:=fun b hb=>hf b (by grind)
   have hf2:rP ah bs2:=fun b hb=>hf b (by grind)
   obtain⟨k1,k2,k3⟩:=yR4 ok ho hv.1 h1 hf1;obtain⟨k4,k5,k6⟩:=QB ok ho hv.2 h2 hf2;have cut:∀{κ:Nat→Option zS} {ay:List zN},zG (jh M ah κ) (eX++QD) ay→zG (jh M ah κ) eX (ay.take s.cells.length)∧zG (jh M ah κ) QD (ay.drop s.cells.length):=by
    intro κ ay ht;have gd:=zG.take s.cells.length ht;have fF:=zG.drop s.cells.length ht;simp_all
   refine⟨by simp_all,fun n Ml ay lo ht=>?_,fun Ml ay n lo ht hκ=>?_⟩
   ·obtain⟨gd,fF⟩:=cut ht;exact(k2 Ml _ lo gd).append (k5 _ Ml _ lo fF)
   ·obtain⟨gd,fF⟩:=cut ht;have hlen:=(k2 Ml _ lo gd).length;refine⟨k3 Ml _ n lo gd fun i b hb=>hκ i b ?_,k6 Ml _ _ lo fF fun i b hb=>?_⟩
    ·grind
    ·have:=hκ (QC.length+i) b (by grind);grind
  ·cases h
def κX (M : zE) (bs : List (Bool × Nat)) (rows : List Nat) : Nat → Option zS := fun n => bif Nat.ble yQ n then (match rows[n-yQ]? with
  |some id=>(M.κ id).map fun C=>{C with ver:=0}
  |none=>none)
 else (match bs[n]? with
  |some b=>M.κ b.2
  |none=>none)
theorem ou:∀{bs} {i id:Nat},bs[i]? =some (true,id)→id∈qZ bs
 |(true,a)::bs,0,id,h=>by cases h;exact List.mem_cons_self ..
 |(true,a)::bs,i+1,id,h=>List.mem_cons_of_mem _ (ou (bs:=bs) (i:=i) h)
 |(false,a)::bs,i+1,id,h=>ou (bs:=bs) (i:=i) h
theorem Gq:∀{bs} {i j id:Nat},(qZ bs).Nodup→bs[i]? =some (true,id)→bs[j]? =some (true,id)→i=j
 |(true,a)::bs,0,0,id,_,_,_=>rfl
 |(true,a)::bs,0,j+1,id,hn,h,k=>by
  cases h;exact absurd (ou (bs:=bs) (i:=j) k) (List.nodup_cons.1 hn).1
 |(true,a)::bs,i+1,0,id,hn,h,k=>by
  cases k;exact absurd (ou (bs:=bs) (i:=i) h) (List.nodup_cons.1 hn).1
 |(true,a)::bs,i+1,j+1,id,hn,h,k=>by rw[Gq (bs:=bs) (List.nodup_cons.1 hn).2 h k]
 |(false,a)::bs,i+1,j+1,id,hn,h,k=>by rw[Gq (bs:=bs) hn h k]
theorem yF8 {M}(ok:Ok M){l as vs cs bs}{d:XD l}(hv:zG (zK M) as vs)(hg:jI M.h l as=some (cs,bs))(hd:gW M.h (l.flatMap AX.cells) cs=some d)
  (cc:(qZ bs++vB (l.flatMap AX.cells) cs).Nodup) (iU:∀id∈vj (l.flatMap AX.cells) cs,id∉qZ bs++vB (l.flatMap AX.cells) cs) (QE:∀id∈AM bs,id∉qZ bs++vB (l.flatMap AX.cells) cs) (hlen:bs.length≤yQ) (AO:jb ((l.flatMap AX.cells).map XC.lnk) (bs.map (·.2)) cs=true) (ho:fH M (qZ bs++vB (l.flatMap AX.cells) cs)):
  ∃Ml:zE,jg M (qZ bs++vB (l.flatMap AX.cells) cs) Ml∧Ml.h=(gX l d).2∧Ok Ml∧(∀b,qC Ml b→jY M (qZ bs++vB (l.flatMap AX.cells) cs) b)∧zG (zK Ml) (gX l d).1 vs∧Ml.κ=κX M bs (vB (l.flatMap AX.cells) cs):=by
 generalize cX:qZ bs++vB (l.flatMap AX.cells) cs=ah at*
 have mb:rP ah bs:=by
  intro b hb;obtain⟨i,hi,rfl⟩:=List.getElem_of_mem hb;have tZ:bs[i]? =some bs[i]:=List.getElem?_eq_getElem hi;refine⟨fun e=>?_,fun e=>?_⟩
  ·rw[←cX];have:bs[i]? =some (true,bs[i].2):=by rw[tZ,←e]
   exact List.mem_append_left _ (ou this)
  ·apply QE;clear hg hd cc iU QE hlen ho cX hv AO
   induction bs generalizing i with
   |nil=>exact absurd hi (Nat.not_lt_zero i)
   |cons c bs ih=>
    obtain⟨io,a⟩:=c;cases i with
    |zero=>cases io<;>first|exact List.mem_cons_self .. |cases e
    |succ i=>cases io<;>first|exact List.mem_cons_of_mem _ (by grind)|exact ih i (by simpa using hi) (List.getElem_mem _) (List.getElem?_eq_getElem _) e
 let κ:=κX M bs (vB (l.flatMap AX.cells) cs);obtain⟨k1,k2,k3⟩:=rO ok ho (κ:=κ) (n:=yQ) (ids:=bs.map (·.2)) hd AO iU;have ht : zG (jh M ah κ) cs (wM (l.flatMap AX.cells) d yQ).1 := k3 (fun i id C hi hC=>by
  show κX M bs _ (yQ+i)=_;unfold κX;rw[Nat.ble_eq_true_of_le (Nat.le_add_right _ _),show yQ+i-yQ=i by omega,hi];simp[hC]) fun j id hj=>by
  rw[List.getElem?_map] at hj;obtain⟨b,hb,rfl⟩:=Option.map_eq_some_iff.1 hj;have hi:j<bs.length:=by grind
  show κX M bs _ j=_;unfold κX;have:Nat.ble yQ j=false:=by
   cases h:Nat.ble yQ j with
   |false=>rfl
   |true=>have:=Nat.le_of_ble_eq_true h;omega
  rw[this,hb];rfl
 obtain⟨a1,a2,a3⟩:=QB ok ho hv hg mb;let Ml:zE:={κ:=κ,F:=fun b=>b<M.H.size∧¬jY M ah b,G:=M.G,h:=(gX l d).2,H:=M.H};have lo:jg M ah Ml:=⟨rfl,rfl,rfl⟩;have ow:=a2 0 Ml _ lo ht;have hκbox:∀i b,bs[i]? =some b→Ml.κ (0+i)=M.κ b.2:=fun i b hb=>by
  have hi:i<bs.length:=by grind
  show κX M bs _ (0+i)=_;unfold κX;have:Nat.ble yQ (0+i)=false:=by
   cases h:Nat.ble yQ (0+i) with
   |false=>rfl
   |true=>have:=Nat.le_of_ble_eq_true h;omega
  rw[this,Nat.zero_add,hb];rfl
 have eG:∀id o,Ml.h id=some o→∃jd C,Ml.κ id=some C∧qR Ml o C∧(o.owned=true→jd∈ah∧∃D,M.κ jd=some D∧D.fp=C.fp)∧
   ((Nat.ble yQ id=true∧(vB (l.flatMap AX.cells) cs)[id-yQ]? =some jd)∨(Nat.ble yQ id=false∧∃io,bs[id]? =some (io,jd)∧o.owned=io)):=by
  intro id o h;have h:vl (ot l (wM (l.flatMap AX.cells) d yQ).1 0).2 (wM (l.flatMap AX.cells) d yQ).2 id=some o:=h;unfold vl at h;cases hb:Nat.ble yQ id with
  |true=>
   rw[hb] at h;have h:(wM (l.flatMap AX.cells) d yQ).2[id-yQ]? =some o:=h;have hi:=(List.getElem?_eq_some_iff.1 h).1;have hj:(vB (l.flatMap AX.cells) cs)[id-yQ]? =some ((vB (l.flatMap AX.cells) cs)[id-yQ]'(by omega)):=by simp
   obtain⟨C,hR⟩:=k2 _ _ _ hj h;refine⟨_,{C with ver:=0},?_,hR.rep Ml rfl rfl,fun _=>⟨?_,C,hR.κ,rfl⟩,.inl ⟨rfl,hj⟩⟩
   ·show κX M bs _ id=_;unfold κX;rw[hb,hj];simp[hR.κ]
   ·rw[←cX];exact by simp
  |false=>
   rw[hb] at h;have hi:=(List.getElem?_eq_some_iff.1 h).1;have Gr:id<bs.length:=by rw[ow.length];exact hi
   have hq:=ow.get id Gr hi;rw[List.getElem?_eq_getElem hi] at h;cases h;obtain⟨C,B,q1,q2,q3,q4⟩:=hq;have tZ:bs[id]? =some bs[id]:=List.getElem?_eq_getElem Gr;refine⟨bs[id].2,C,?_,q3,fun e=>⟨(mb _ (List.getElem_mem Gr)).1 (by rw[←q4];exact e),C,q1,rfl⟩,by grind⟩;have:=hκbox id _ tZ;rw[Nat.zero_add] at this;rw[this];exact q1
 have au:∀b,qC Ml b→jY M ah b:=fun b ⟨id,o,C,h1,h2,h3,h4⟩=>by
  obtain⟨jd,C',q1,_,q3,_⟩:=eG id o h1;rw[h3] at q1;cases q1;obtain⟨p1,D,p2,p3⟩:=q3 h2;exact⟨jd,p1,D,p2,by rw[p3];exact h4⟩
 refine⟨Ml,lo,rfl,⟨fun id o h=>?_,fun id h=>?_,fun i j oi oj Ci Cj b fx h1 h2 h3 h4 h5 h6 h7 h8=>?_,fun b hb=>⟨fun hf=>hf.2 (au b hb),(ok.own b ((au b hb).own ho)).2⟩,fun b hb=>kO ok ho (ok.GF b hb),fun b hb=>hb.1⟩,au,a3 Ml _ 0 lo ht hκbox,rfl⟩
 ·obtain⟨jd,C,q1,q2,_⟩:=eG id o h;exact⟨C,q1,q2⟩
 ·have h:vl (ot l (wM (l.flatMap AX.cells) d yQ).1 0).2 (wM (l.flatMap AX.cells) d yQ).2 id=none:=h;unfold vl at h;show κX M bs _ id=none;unfold κX;cases hb:Nat.ble yQ id with
  |true=>
   rw[hb] at h;have h:(wM (l.flatMap AX.cells) d yQ).2[id-yQ]? =none:=h;rw[List.getElem?_eq_none_iff,←k1] at h;rw[List.getElem?_eq_none h];rfl
  |false=>
   rw[hb] at h;have h:(ot l (wM (l.flatMap AX.cells) d yQ).1 0).2[id]? =none:=h;rw[List.getElem?_eq_none_iff,←ow.length] at h;rw[List.getElem?_eq_none h];rfl
 ·obtain⟨ji,Ci',p1,_,p3,p4⟩:=eG i oi h1;obtain⟨jj,Cj',q1,_,q3,q4⟩:=eG j oj h2;rw[h5] at p1;cases p1;rw[h6] at q1;cases q1;obtain⟨p5,Di,p6,p7⟩:=p3 h3;obtain⟨q5,Dj,q6,q7⟩:=q3 h4;obtain⟨oi',r1,r2⟩:=ho ji p5;obtain⟨oj',r3,r4⟩:=ho jj q5;refine ok.disj ji jj oi' oj' Di Dj b (fun e=>?_) r1 r3 r2 r4 p6 q6 (by rw[p7];exact h7) (by rw[q7];exact h8);subst e;rw[←cX] at cc;obtain⟨n1,n2,n3⟩:=List.nodup_append.1 cc;rcases p4 with⟨p8,p9⟩|⟨p8,io,p9,oz⟩<;>rcases q4 with⟨q8,q9⟩|⟨q8,io',q9,AP⟩
  ·have:=(List.getElem?_inj (by grind) n2).1 (p9.trans q9.symm);have e1:=Nat.le_of_ble_eq_true p8;have e2:=Nat.le_of_ble_eq_true q8;exact fx (by omega)
  ·rw[h4] at AP;subst AP;exact n3 _ (ou q9) _ (List.mem_of_getElem? p9) rfl
  ·rw[h3] at oz;subst oz;exact n3 _ (ou p9) _ (List.mem_of_getElem? q9) rfl
  ·rw[h3] at oz;rw[h4] at AP;subst oz;subst AP;exact fx (Gq n1 p9 q9)
theorem mc {n}:∀{ids h},zX h (gY ids) n=if n∈ids then some .gone else h n
 |[],_=>by rfl
 |id::ids,h=>by
  show zX (qH h id .gone) (gY ids) n=_;rw[mc (ids:=ids)];by_cases e:n=id
  ·subst e;simp[qM]
  ·rw[qN _ _ e];simp[e]
def zE.overX (M L:zE)(ah:List Nat):zE:={κ:=M.κ,F:=fun b=>M.F b∨L.G b,G:=L.G,h:=zX M.h (gY ah),H:=L.H}
theorem zE.overX_ok {M Ml L ah}(ok:Ok M)(df:Ok L)(lo:jg M ah Ml)(ho:fH M ah)(hand:∀b,qC Ml b→jY M ah b)(g:jB Ml L):
  Ok (M.overX L ah)∧qU M (M.overX L ah)∧(∀b,qC (M.overX L ah) b→qC M b∧¬jY M ah b):=by
 have bN:∀b,b<M.H.size→¬jY M ah b→L.H[b]? =M.H[b]? :=fun b hb hn=>by rw[g.same b (by rw[lo.F];simp_all),lo.H]
 have bZ:M.H.size≤L.H.size:=by have:=g.size;rw[lo.H] at this;exact this
 have hG:∀b,L.G b→b<M.H.size→M.G b∨jY M ah b:=fun b hb hs=>by
  rcases g.Gb b hb (by rw[lo.H];exact hs) with h|h
  ·rw[lo.G] at h;simp_all
  simp_all
 have QF:∀b,M.F b→L.H[b]? =M.H[b]? :=fun b h=>bN b (kO ok ho h).1 (kO ok ho h).2
 have x:qK M (M.overX L ah):=⟨fun id C h=>⟨C,h,C.le_refl⟩,fun b h=>.inl h,fun b h=>g.G b (by rw[lo.G];exact h),fun b h=>QF b h,fun b h=>QF b (ok.GF b h),fun b h=>by
  have:=g.bsz b (by rw[lo.H];exact h);rw[lo.H] at this;exact this⟩
 have eG:∀id o,(M.overX L ah).h id=some o→o.owned=true→id∉ah∧M.h id=some o:=fun id o h de=>by
  have h:zX M.h (gY ah) id=some o:=h;rw[mc] at h;by_cases hm:id∈ah
  ·rw[if_pos hm] at h;cases h;cases de
  simp_all
 have Gs:∀id o C,id∉ah→M.h id=some o→o.owned=true→M.κ id=some C→∀b∈C.fp,¬jY M ah b:=fun id o C hm h de hC b hb ⟨jd,hj,D,hD,F2⟩=>by
  obtain⟨q,q1,q2⟩:=ho jd hj;exact ok.disj id jd o q C D b (by grind) h q1 de q2 hC hD hb F2
 have au:∀b,qC (M.overX L ah) b→qC M b∧¬jY M ah b:=fun b ⟨id,o,C,h1,h2,h3,h4⟩=>by
  obtain⟨k1,k2⟩:=eG id o h1 h2;exact⟨⟨id,o,C,k2,h2,h3,h4⟩,Gs id o C k1 k2 h2 h3 b h4⟩
 refine⟨⟨fun id o h=>?_,fun id h=>?_,fun i j oi oj Ci Cj b fx h1 h2 h3 h4 h5 h6 h7 h8=>?_,fun b h=>⟨fun hf=>?_,?_⟩,fun b h=>.inr h,fun b h=>?_⟩,⟨x,bZ,fun b hb hn=>bN b hb fun hh=>hn (hh.own ho),by grind,fun b h hs=>?_,fun b h hs=>?_⟩,au⟩
 ·have h:zX M.h (gY ah) id=some o:=h;rw[mc] at h;by_cases hm:id∈ah
  ·rw[if_pos hm] at h;cases h;obtain⟨q,q1,q2⟩:=ho id hm;obtain⟨C,hC,_⟩:=ok.obj id q q1;exact⟨C,hC,trivial⟩
  ·rw[if_neg hm] at h;obtain⟨C,hC,hO⟩:=ok.obj id o h;exact⟨C,hC,hO.ext x fun de b hb=>bN b (ok.own b ⟨id,o,C,h,de,hC,hb⟩).2 (by grind)⟩
 ·have h:zX M.h (gY ah) id=none:=h;rw[mc] at h;by_cases hm:id∈ah
  ·simp_all
  ·rw[if_neg hm] at h;exact ok.non id h
 ·exact ok.disj i j oi oj Ci Cj b fx (eG i oi h1 h3).2 (by grind) h3 h4 h5 h6 h7 h8
 ·obtain⟨k1,k2⟩:=au b h;have:=ok.own b k1;rcases hf with hf|hf
  ·simp_all
  ·rcases hG b hf this.2 with h|h
   ·exact this.1 (ok.GF b h)
   simp_all
 ·have h1:=(ok.own b (au b h).1).2;show b<L.H.size;omega
 ·show b<L.H.size;rcases h with h|h
  ·have:=ok.Flt b h;omega
  ·exact df.Flt b (df.GF b h)
 ·rcases hG b h hs with h|h
  ·simp_all
  ·exact .inr (h.own ho)
 ·rcases h with h|h
  ·simp_all
  ·rcases hG b h hs with h|h
   ·exact .inl (ok.GF b h)
   ·exact .inr (h.own ho)
def zS.bare (C:zS):zS:={C with ver:=C.ver+1,rows:=[]}
def zE.revive (M:zE)(id:Nat)(C:zS)(cs:List zN):zE:={M with κ:=κset M.κ id C.bare,h:=qH M.h id (.box true cs)}
theorem zE.revive_ok {M}(ok:Ok M){id C B vals e cs}(hC:M.κ id=some C)(hB:C.blk=some B)(hH:M.H[B]? =some (.cells vals e (0,0)))(hc:zG (zM M) cs vals.toList)
  (h1:¬qC M B) (h2:¬M.F B):Ok (M.revive id C cs)∧qK M (M.revive id C cs)∧(∀b,qC (M.revive id C cs) b→qC M b∨b=B):=by
 have hκ:(M.revive id C cs).κ id=some C.bare:=κset_same _ _ _;have x:qK M (M.revive id C cs):=⟨fun jd D h=>by
  by_cases e':jd=id
  ·subst e';rw[hC] at h;cases h;exact⟨_,hκ,rfl,rfl,rfl,Nat.le_succ _,fun h=>absurd h (by simp[zS.bare])⟩
  ·exact⟨D,by show κset M.κ id _ jd=_;rw[κset_ne _ _ e'];exact h,D.le_refl⟩,fun _ h=>h,fun _ h=>h,fun _ _=>rfl,fun _ _=>rfl,fun _ _=>rfl⟩
 have iJ:C.bare.fp=[B]:=by simp[zS.fp,zS.bare,hB]
 have An:(M.revive id C cs).h id=some (.box true cs):=qM _ _ _;refine⟨Ok.build ok x (fun jd=>jd=id) (fun jd h=>qN _ _ h) (fun jd h=>κset_ne _ _ h) (fun _ _ _ _ _ _ _ _ _=>rfl) (fun jd o' D k1 k2 k3 k4 b bn=>(ok.own b ⟨jd,o',D,k2,k3,k4,bn⟩).1) (Nat.le_refl _)
  (fun jd o' e' h=>?_) (fun jd e' h=>?_) (fun jd o' D b e' k1 k2 k3 k4=>?_) ok.GF ok.Flt,x,fun b bn=>?_⟩
 ·subst e';rw[An] at h;cases h;exact⟨_,hκ,B,vals,e,hB,rfl,hH,hc.mono fun _ _ h=>h.ext x,by simp⟩
 ·simp_all
 ·subst e';rw[hκ] at k3;cases k3;rw[iJ,List.mem_singleton] at k4;subst k4;refine⟨fun j oj Cj hj q1 q2 q3 q4=>h1 ⟨j,oj,Cj,?_,q2,?_,q4⟩,h2,(Array.getElem?_eq_some_iff.1 hH).1⟩
  ·rw[←q1];exact(qN _ _ hj).symm
  ·rw[←q3];exact(κset_ne _ _ hj).symm
 ·obtain⟨jd,o',D,k1,k2,k3,k4⟩:=bn;by_cases e':jd=id
  ·simp_all
  ·exact .inl ⟨jd,o',D,by rw[←k1];exact(qN _ _ e').symm,k2,by rw[←k3];exact(κset_ne _ _ e').symm,k4⟩
structure QG (M:zE) (id:Nat) (cs:List zN) (B:Nat):Prop where
 at':∃C,M.κ id=some C∧C.blk=some B
 rep:∃vals e,M.H[B]? =some (.cells vals e (0,0))∧zG (zM M) cs vals.toList
 own:¬qC M B
 F:¬M.F B
def gh (R:Nat→List zN→Nat→Prop):List Nat→List (List zN)→List Nat→Prop
 |[],[],[]=>True
 |a::l,b::m,c::n=>R a b c∧gh R l m n
 |_,_,_=>False
theorem gh.mono {R S}:∀{l m n},(∀a b c,c∈n→R a b c→S a b c)→gh R l m n→gh S l m n
 |[],[],[],_,_=>trivial
 |_::_,_::_,_::_,h,k=>⟨h _ _ _ (by simp) k.1,gh.mono (by grind) k.2⟩
theorem QH:∀{ids css Bs M},Ok M→gh (QG M) ids css Bs→Bs.Nodup→
  ∃M':zE,M'.H=M.H∧M'.G=M.G∧M'.F=M.F∧M'.h=zX M.h (rM ids css)∧Ok M'∧qK M M'∧(∀b,qC M' b→qC M b∨b∈Bs)
 |[],[],[],M,ok,_,_=>⟨M,rfl,rfl,rfl,rfl,ok,.refl M,by simp⟩
 |id::ids,cs::css,B::Bs,M,ok,h,hn=>by
  obtain⟨C,hC,hB⟩:=h.1.at';obtain⟨vals,e,hH,hc⟩:=h.1.rep;obtain⟨k1,k2,k3⟩:=zE.revive_ok ok hC hB hH hc h.1.own h.1.F;obtain⟨n1,n2⟩:=List.nodup_cons.1 hn;obtain ⟨M', a1, a2, a3, a4, a5, a6, a7⟩ := QH (M := M.revive id C cs) k1 (gh.mono (fun a b c hcB hb=>by
   refine⟨?_,?_,fun ho=>?_,hb.F⟩
   ·obtain⟨D,q1,q2⟩:=hb.at';obtain⟨D',q3,le⟩:=k2.κ _ _ q1;exact⟨D',q3,le.blk.trans q2⟩
   ·obtain⟨vals,e,q1,q2⟩:=hb.rep;exact⟨vals,e,q1,q2.mono fun _ _ h=>h.ext k2⟩
   ·rcases k3 _ ho with h|h
    ·exact hb.own h
    simp_all) h.2) n2
  exact⟨M',a1,a2,a3,a4,a5,qK.trans (M:=M) (M':=M.revive id C cs) (Nat.le_refl _) k2 a6,by grind⟩
theorem QI:∀{ids css h h'},ids.length=css.length→(∀n,n∉ids→h n=h' n)→zX h (rM ids css)=zX h' (rM ids css)
 |[],[],h,h',_,e=>funext fun n=>e n (by simp)
 |id::ids,cs::css,h,h',hl,e=>QI (ids:=ids) (css:=css) (by simp_all) fun n hn=>by
   by_cases k:n=id
   ·subst k;rw[qM,qM]
   ·rw[qN _ _ k,qN _ _ k];simp_all
theorem yCo {h0 s a a' v u M}(ok:Ok M)(hf:yX h0 M.h)(hv:zK M a v)(h:ma h0 s a=some (a',u)):
  ∃L:zE,L.H=M.H∧L.h=zX M.h u∧Ok L∧qU M L∧zK L a' v∧yX h0 L.h:=by
 unfold ma at h;split at h
 ·rename_i p x;split at h
  ·rename_i y u1 e;cases h;obtain⟨L,h1,h2,h3,h4,h5,h6⟩:=lV (cs:=[x]) (vs:=[v]) ok hf ⟨hv,trivial⟩ e;exact⟨L,h1,h2,h3,h4,h5.1,h6⟩
  ·cases h
 ·split at h
  ·rename_i ys u1 e;cases h;obtain⟨vs,rfl,hx⟩:=hv;obtain⟨L,h1,h2,h3,h4,h5,h6⟩:=lV ok hf hx e;exact⟨L,h1,h2,h3,h4,⟨vs,rfl,h5⟩,h6⟩
  ·cases h
 ·cases h;exact⟨M,rfl,rfl,ok,.refl M,hv,hf⟩
theorem QJ {h0}:∀{l as cE vs u M},Ok M→yX h0 M.h→zG (zK M) as vs→jc h0 l as=some (cE,u)→
  ∃L:zE,L.H=M.H∧L.h=zX M.h u∧Ok L∧qU M L∧zG (zK L) cE vs∧yX h0 L.h
 |s::l,a::as,cE,v::vs,u,M,ok,hf,hv,h=>by
  unfold jc at h;split at h
  ·rename_i a1 u1 F5 iK e1 e2;cases h;obtain⟨M1,h1,h2,h3,h4,h5,h6⟩:=yCo ok hf hv.1 e1;obtain⟨M2,k1,k2,k3,k4,k5,k6⟩:=QJ h3 h6 (lW.ext h4.ext hv.2) e2;exact⟨M2,k1.trans h1,by rw[k2,h2,jZ],k3,h4.trans k4,⟨h5.ext k4.ext,k5⟩,k6⟩
  ·cases h
 |[],as,cE,vs,u,M,ok,hf,hv,h=>by
  cases as<;>cases h<;>exact⟨M,rfl,rfl,ok,.refl M,hv,hf⟩
 |s::l,[],cE,vs,u,M,ok,hf,hv,h=>by cases h;exact⟨M,rfl,rfl,ok,.refl M,hv,hf⟩
def eH (M L:zE)(id jd:Nat):Prop:=∃C D B,M.κ id=some C∧C.blk=some B∧L.κ jd=some D∧D.blk=some B
theorem Gt {M L}:∀{ls is js out} {us:List Value} {cs bs},wX M.h ls is=some (cs,bs)→vm ls js=some out→
  zG (fun id u=>∃C B,M.κ id=some C∧C.blk=some B∧u=.pointer (some ⟨B,0,none⟩)) is us→zG (fun id u=>∃C B,L.κ id=some C∧C.blk=some B∧u=.pointer (some ⟨B,0,none⟩)) js us→zG (eH M L) (qZ bs) out
 |[],[],[],out,us,cs,bs,h,k,_,_=>by cases h;cases k;exact trivial
 |(io,l)::ls,i::is,j::js,out,u::us,cs,bs,h,k,p,q=>by
  unfold wX at h;split at h
  ·rename_i cells rest oq h1 h2;obtain⟨_,h⟩:=yL h;cases h;unfold vm at k;split at k
   ·rename_i o ho;cases k;have ih:=Gt h2 ho p.2 q.2;cases io with
    |false=>exact ih
    |true=>
     obtain⟨C,B,k1,k2,k3⟩:=p.1;obtain⟨D,B',k4,k5,k6⟩:=q.1;rw[k3] at k6;cases k6;exact⟨⟨C,D,B,k1,k2,k4,k5⟩,ih⟩
   ·cases k
  ·cases h
theorem QK {M L}:∀{bs n},(∀q∈bs,q.1=true)→(∀i q,bs[i]? =some q→eH M L q.2 (n+i))→zG (eH M L) (qZ bs) (eF n bs.length)
 |[],n,_,_=>trivial
 |(true,id)::bs,n,h,k=>⟨k 0 _ rfl,QK (by grind) fun i q hq=>by
   have:=k (i+1) q hq;grind⟩
 |(false,id)::bs,n,h,k=>by simp_all
theorem QL {h}:∀{ls ids cs bs},wX h ls ids=some (cs,bs)→bs.map (·.1)=ls.map (·.1)
 |[],[],_,_,e=>by cases e;rfl
 |(io,l)::ls,id::ids,cs,bs,e=>by
  unfold wX at e;split at e
  ·rename_i cells rest oq h1 h2;obtain⟨_,e⟩:=yL e;cases e;simp[QL h2]
  ·cases e
theorem yJ9 {M L}{s:AX}{a b v cs bs out}(h:s.get M.h a=some (cs,bs)){n}(k:s.io n b=some out)(p:zK M a v)(q:s.looks=true→zK L b v)(hk:s.isChn=true→∀i q,bs[i]? =some q→eH M L q.2 (n+i)):zG (eH M L) (qZ bs) out:=by
 unfold AX.get at h;split at h
 ·cases h;cases k;exact trivial
 ·obtain⟨_,h'⟩:=yL h;cases h';cases k;exact trivial
 ·unfold AX.io at k;split at k
  ·rename_i e;cases e
  ·rename_i e;cases e
  ·rename_i io' l' jd e;cases e;exact Gt (us:=[v]) h k ⟨p,trivial⟩ ⟨q rfl,trivial⟩
  all_goals simp_all
 ·obtain⟨hg,h'⟩:=yL h;unfold AX.io at k;split at k
  ·simp_all
  ·simp_all
  ·simp_all
  ·rename_i f' QM g' js e;cases e;obtain⟨cv,rfl,hc⟩:=p;obtain⟨cv',e',dY⟩:=q rfl;cases e';exact Gt h' k hc dY
  all_goals simp_all
 ·rename_i ls id;split at h
  ·cases k;have h1:=vq h;have h2:ls.length=bs.length:=by rw[h1];simp[rI]
   rw[h2];exact QK (fun q hq=>by
    have:q.1∈bs.map (·.1):=by grind
    rw[QL h] at this;exact(by simpa[rI] using this:_∧_).2) (hk rfl)
  ·cases h
 ·cases h
theorem QN {M L}:∀{l as vs t n cs bs out m},jI M.h l as=some (cs,bs)→AL l t n m=some out→zG (zK M) as vs→(∀i h s,l[i]? =some s→s.looks=true→zK L (t (n+i)) vs[i])→(l.any AX.isChn=true→∀i q,bs[i]? =some q→eH M L q.2 (m+i))→
  zG (eH M L) (qZ bs) out
 |[],[],[],t,n,cs,bs,out,m,h,k,_,_,_=>by cases h;cases k;exact trivial
 |s::l,a::as,v::vs,t,n,cs,bs,out,m,h,k,p,q,hk=>by
  unfold jI at h;split at h
  ·rename_i c1 b1 c2 b2 h1 h2;cases h;unfold AL at k;split at k
   ·rename_i o1 o2 k1 k2;cases k;have e:∀b1 b2:List (Bool×Nat),qZ (b1++b2)=qZ b1++qZ b2:=fun b1 b2=>by
     induction b1 with
     |nil=>rfl
     |cons x b1 ih=>obtain⟨io,y⟩:=x;cases io<;>simp[qZ,ih]
    rw[e];have hnb:=yI9 h1;refine(yJ9 h1 k1 p.1 (q 0 (by simp) s rfl) (by grind)).append (QN h2 k2 p.2 (fun i hi s' hs hl=>?_) fun hc i q hq=>?_)
    rotate_left
    ·have:=hk (by simp_all) (b1.length+i) q (by grind);grind
    have:=q (i+1) (by simp_all) s' (by simp_all) hl;grind
   ·cases k
  ·cases h
 |[],_::_,_,_,_,_,_,_,_,h,_,_,_,_=>by cases h
theorem QO {L}(df:Ok L):∀{os ids bs},rK L.h os ids=some bs→bs.length=os.flatten.length∧ids.length=os.length∧
  ∃us:List Value,zG (zM L) bs us∧∀{M cs},M.H=L.H→zG (zM M) cs us→gh (fun id cs B=>(∃cells,L.h id=some (.box true cells))∧(∃C,L.κ id=some C∧C.blk=some B∧C.rows=[])∧∃vals e,M.H[B]? =some (.cells vals e (0,0))∧zG (zM M) cs vals.toList) ids (l9 os cs) (ids.map fun id=>((L.κ id).bind zS.blk).getD 0)
 |[],[],bs,h=>by cases h;exact⟨rfl,rfl,[],trivial,fun _ _=>trivial⟩
 |o::os,n::ns,bs,h=>by
  unfold rK at h;split at h
  ·rename_i cells rest h1 h2;obtain⟨hl,h⟩:=yL h;cases h;obtain⟨C,hC,B,vals,e,q1,q2,q3,q4,_⟩:=df.obj n _ h1;obtain⟨k1,k2,us,k3,k4⟩:=QO df h2;refine⟨by simp_all,by simp[k2],vals.toList++us,q4.append k3,fun{M cs} hH hc=>⟨⟨by grind,⟨C,hC,?_,q2⟩,vals,e,?_,?_⟩,?_⟩⟩
   ·simp_all
   ·simp_all
   ·have h1:=zG.take o.length hc;have F3:=q4.length;simp_all
   ·have h1:=zG.drop o.length hc;have F3:=q4.length;simp_all
  ·cases h
theorem yPz {h0 r c d}(h:gT h0 r c=some d):∀id∈yJ [r] [c],∀own cells,h0 id≠some (.box own cells):=by
  unfold gT at h;split at h;all_goals (try (intro id ab;simp[yJ] at ab;done))
  all_goals first
    |(done)
    | (intro rp ab own cells hb
       have:=List.mem_singleton.1 ab;simp_all)
    |(cases h)
theorem QP {L}:∀{l cs d},jP L l cs=some d→∀id∈yJ l cs,∀own cells,L id≠some (.box own cells)
 |r::l,c::cs,d,h,id,ab=>by
  unfold jP at h;split at h
  ·rename_i x xs e1 e2;rw[AA] at ab;rcases List.mem_append.1 ab with ab|ab
   ·exact yPz e1 id ab
   ·exact QP e2 id ab
  ·cases h
end Go.Ab
