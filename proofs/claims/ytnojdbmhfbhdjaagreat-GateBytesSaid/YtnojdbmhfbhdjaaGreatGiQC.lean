/- Plain proofs, part 2. -/
import Derived.Test.YtnojdbmhfbhdjaaGreatGiQB
import Derived.Test.YtnojdbmhfbhdjaaGreatGiQA
set_option linter.unusedVariables false
set_option linter.unusedSimpArgs false
set_option maxRecDepth 100000
namespace Go.Ab.Gi
open Go.Ab
abbrev MT:=Int×List og×Int×Int×Int×Int×List qY×jL×AC×jL×AC×jL×List zH×AC×Int×Bool×Int×Int
abbrev MOT:=Int×List og×Int×Int×Int×Int×List qY×jL×AC×jL×AC×jL×List zH×AC×Int×Bool×Int×List yI×Int
def rk (r:qP)(s:qD)(who:Int):MT:=(r.1,r.2.1,r.2.2.1,r.2.2.2.1,r.2.2.2.2,s.t,s.B.1,s.B.2.1,s.B.2.2.1,s.B.2.2.2,s.pr,s.ho,s.m,s.ids,s.to,s.ov,who,0)
def qL (r:qP)(s:qD)(who:Int)(l:List yI)(paid:Int):MOT:=(r.1,r.2.1,r.2.2.1,r.2.2.2.1,r.2.2.2.2,s.t,s.B.1,s.B.2.1,s.B.2.2.1,s.B.2.2.2,s.pr,s.ho,s.m,s.ids,s.to,s.ov,who,l,paid)
def Ib (pa n:Int):Int:=bif decide (n<0) then-1 else bif decide (n≥pa) then-1 else n
theorem qRc k r s who l p n:vn k (qL r s who l p) n=some (Ib r.1 n):=by
 unfold vn Ib;have e:(qL r s who l p).1=r.1:=rfl;grind
theorem qO5 {pa n}(h:0≤n∧n<pa):Ib pa n=n:=by
 unfold Ib;grind
theorem qZt {pa n}(h:¬(0≤n∧n<pa)):Ib pa n= -1:=by
 unfold Ib;grind
theorem yLc k (r:qP) t c:Ic k r t c=some (qy r.2.2.1 r.2.2.2.1 t c):=by
 unfold Ic qy;grind
theorem vG5 k (r:qP) t (p:zH):CP k r t p=some (ni r t p):=by
 unfold CP ni;rw[yLc];simp only[ae];have no:¬(p.2.1≥0∧p.2.1<r.1∧p.2.2.1≥0∧p.2.2.1<r.1∧p.1≥1∧p.2.2.2.1≥1∧p.2.2.2.1≤1099511627776∧p.2.2.2.2.1≥1∧¬p.2.1=p.2.2.1∧p.2.2.2.2.1≤3∧p.2.2.2.2.2.1≥0∧p.2.2.2.2.2.1≤p.2.2.2.2.2.2∧p.2.2.2.2.2.2≥t∧p.2.2.2.2.2.2≤1048576)→kV r.1 t p=false:=by
  intro h;cases e:kV r.1 t p with
  |false=>rfl
  |true=>
   unfold kV at e;grind
 by_cases c1:p.1<1
 ·rw[aa c1,no (fun⟨_,_,_,_,h,_⟩=>by omega)];rfl
 by_cases c2:p.2.1<0
 ·rw[ab c1,aa c2,no (fun⟨h,_⟩=>by omega)];rfl
 by_cases c3:p.2.1≥r.1
 ·rw[ab c1,ab c2,aa c3,no (fun⟨_,h,_⟩=>by omega)];rfl
 by_cases c4:p.2.2.1<0
 ·rw[ab c1,ab c2,ab c3,aa c4,no (fun⟨_,_,h,_⟩=>by omega)];rfl
 by_cases c5:p.2.2.1≥r.1
 ·rw[ab c1,ab c2,ab c3,ab c4,aa c5,no (fun⟨_,_,_,h,_⟩=>by omega)];rfl
 rw[ab c1,ab c2,ab c3,ab c4,ab c5];simp only[ak];by_cases c6:p.2.1=p.2.2.1
 ·rw[aa c6,no (fun⟨_,_,_,_,_,_,_,_,h,_⟩=>h c6)];rfl
 by_cases c7:p.2.2.2.1<1
 ·rw[ab c6,aa c7,no (fun⟨_,_,_,_,_,h,_⟩=>by omega)];rfl
 by_cases c8:p.2.2.2.1>1099511627776
 ·rw[ab c6,ab c7,aa c8,no (fun⟨_,_,_,_,_,_,h,_⟩=>by omega)];rfl
 by_cases c9:p.2.2.2.2.1<1
 ·rw[ab c6,ab c7,ab c8,aa c9,no (fun⟨_,_,_,_,_,_,_,h,_⟩=>by omega)];rfl
 by_cases Qp:p.2.2.2.2.1>3
 ·rw[ab c6,ab c7,ab c8,ab c9,aa Qp,no (by grind)];rfl
 rw[ab c6,ab c7,ab c8,ab c9,ab Qp];simp only[ak];by_cases B4:p.2.2.2.2.2.1<0
 ·rw[aa B4,no (by grind)];rfl
 by_cases Rz:p.2.2.2.2.2.1>p.2.2.2.2.2.2
 ·rw[ab B4,aa Rz,no (by grind)];rfl
 by_cases c13:p.2.2.2.2.2.2<t
 ·rw[ab B4,ab Rz,aa c13,no (by grind)];rfl
 by_cases c14:p.2.2.2.2.2.2>1048576
 ·rw[ab B4,ab Rz,ab c13,aa c14,no (by grind)];rfl
 rw[ab B4,ab Rz,ab c13,ab c14];have e:kV r.1 t p=true:=by
  unfold kV;simp_all
 rw[e];rfl
def CQ (k:Nat)(r:qP)(s:qD)(who:Int)(p:zH):Option (Int×MOT):=
 (CP k r s.t p).bind fun x1=>
 bif !(decide (x1=0)) then some (x1,qL r s who [] 0)
 else(CO k s.ids p.1).bind fun x2=>
 bif !(decide (x2.2=0)) then some (x2.2,qL r s who [] 0)
 else(CN k s.m p.1 p.2.1 p.2.2.1 p.2.2.2.1 p.2.2.2.2.1 p.2.2.2.2.2.1 p.2.2.2.2.2.2).bind fun x3=>
 bif !(decide (x3.2=0)) then some (x3.2,qL r s who [] 0)
 else some (0,qL r {s with m:=x3.1,ids:=x2.1} who [] p.1)
theorem aaU {k}(hk:1000≤k){r}(hr:wT r){s}(h:kU s.B.1.length s.m s.ids) who f:
  ∃d,RA k (rk r s who) f.2=some ((iY r s who f).1,d)∧((iY r s who f).1=0→d=qL r {s with m:=(iY r s who f).2.1,ids:=(iY r s who f).2.2} who [] f.2.1):=by
 have hp:=hr.pa;have hi:=h.idl;have hm:=h.len;have eD:RA k (rk r s who) f.2=(vn k (qL r s who [] 0) f.2.2.1).bind fun x0=>
  bif decide (f.2.2.2.2.1 ≥ 1) then (bif decide (f.2.2.2.2.1≤3) then CQ k r s who (f.2.1,who,x0,f.2.2.2)
   else CQ k r s who (f.2.1,who,x0,f.2.2.2.1,0,f.2.2.2.2.2))
  else CQ k r s who (f.2.1,who,x0,f.2.2.2.1,0,f.2.2.2.2.2):=rfl
 have bad:∀p:zH,kV r.1 s.t p=false→CQ k r s who p=some (1,qL r s who [] 0):=by
  intro p hp;unfold CQ;rw[vG5];unfold ni;rw[hp];rfl
 have ag7:∀p:zH,¬(p.2.2.1≥0∧p.2.2.2.2.1≥1)→kV r.1 s.t p=false:=by
  intro p hn;cases e:kV r.1 s.t p with
  |false=>rfl
  |true=>
   unfold kV at e;simp  at e;obtain⟨_,⟨a3,_⟩,_,_,_,a8,_⟩:=e;exact absurd ⟨a3,a8⟩ hn
 rw[eD,qRc];simp only[ae];unfold iY;by_cases hto:0≤f.2.2.1∧f.2.2.1<r.1
 ·rw[qO5 hto,aa (show f.2.2.1≥0 by omega),aa (show f.2.2.1≤r.1-1 by omega)];by_cases hc:f.2.2.2.2.1≥1∧f.2.2.2.2.1≤3
  ·rw[aa hc.1,aa hc.2];simp only[Bool.and_self,az,ak,ai];have ep:((f.2.1,who,f.2.2.1,f.2.2.2):zH)=ga who f:=rfl;rw[ep];unfold CQ;rw[vG5];simp only[ae];by_cases hz:ni r s.t (ga who f)=0
   ·rw[aa hz];have e1:(ga who f).1=f.2.1:=rfl;simp only[az,ak];rw[e1,aaT (by omega) (by omega)];simp only[ae];by_cases h1:f.2.1∈s.ids
    ·rw[aa h1];exact⟨_,rfl,fun e=>by cases e⟩
    ·rw[ab h1];by_cases h2:200≤s.ids.length
     ·rw[aa h2];exact⟨_,rfl,fun e=>by cases e⟩
     ·rw[ab h2];have e3:=vX3 (k:=k) (l:=s.m) (by omega) (by omega) (ga who f);rw[e1] at e3;simp only[ak,decide_true,az];rw[e3];simp only[ae];cases(vU s.m f.2.1).isSome with
      |true=>exact⟨_,rfl,fun e=>by cases e⟩
      |false=>
       by_cases h3:40≤s.m.length
       ·rw[aa h3];exact⟨_,rfl,fun e=>by cases e⟩
       ·rw[ab h3];exact⟨_,rfl,fun _=>rfl⟩
   ·rw[ab hz];exact⟨_,rfl,fun e=>absurd e hz⟩
  ·have e0:=bad (f.2.1,who,f.2.2.1,f.2.2.2.1,0,f.2.2.2.2.2) (by grind);rw[e0];have g:(!(decide (f.2.2.2.2.1≥1)&&decide (f.2.2.2.2.1≤3)))=true:=by
    by_cases a:f.2.2.2.2.1≥1
    ·rw[aa a,ab (fun b=>hc ⟨a,b⟩)];rfl
    ·rw[ab a];rfl
   rw[g];refine⟨qL r s who [] 0,?_,fun e=>by cases e⟩;by_cases a:f.2.2.2.2.1≥1
   ·rw[aa a,ab (fun b=>hc ⟨a,b⟩)];rfl
   ·rw[ab a];rfl
 ·have g:(!(decide (f.2.2.1≥0)&&decide (f.2.2.1≤r.1-1)))=true:=by
   by_cases a:f.2.2.1≥0
   ·rw[aa a,ab (show¬f.2.2.1≤r.1-1 by omega)];rfl
   ·rw[ab a];rfl
  have q:∀x:Int×Int×Int×Int,CQ k r s who (f.2.1,who,-1,x)=some (1,qL r s who [] 0):=by grind
  rw[g,qZt hto,q,q];refine⟨qL r s who [] 0,?_,fun e=>by cases e⟩;cases decide (f.2.2.2.2.1≥1)<;>cases decide (f.2.2.2.2.1≤3)<;>rfl
theorem vKm {k}(hk:1000≤k){r s}(h:kU s.B.1.length s.m s.ids) who f (hf:f.1=2∨f.1=3∨f.1=4):
    ∃d,CR k (rk r s who) f.1 f.2=some ((kW r s who f).1,d)∧((kW r s who f).1=0→d=qL r {s with m:=(kW r s who f).2.1} who (kW r s who f).2.2 0):=by
  have hm:=h.len;have oU:qT s.m:=by unfold qT;omega
  have eD : CR k (rk r s who) f.1 f.2 = ((mq k s.m f.2.1).bind fun x0=>
      bif decide (x0<0) then some (((0,0,0,0,0,0,0):zH),false)
      else bif zB x0 s.m.length then (bif !(decide ((s.m.getD x0.toNat (0,0,0,0,0,0,0)).2.1=who)) then some ((0,0,0,0,0,0,0),false)
        else bif zB x0 s.m.length then some ((s.m.getD x0.toNat (0,0,0,0,0,0,0)),true)
        else none)
      else none).bind fun x0=>
    bif !x0.2 then some (4,qL r s who [] 0)
    else bif decide (f.1 = 2) then ((ou k s.m f.2.1).bind fun x1=>
      (eZ k 20 [f.2.1]).bind fun x2=>
      some (0,qL r {s with m:=x1.1} who [(who,x2)] 0))
    else bif decide (f.1 = 3) then (bif decide (f.2.2.1 = 0) then ((MX k s.m f.2.1).bind fun x3=>
       some (0,qL r {s with m:=x3.1} who [] 0))
      else bif decide (f.2.2.1 = 1) then ((MW k s.m f.2.1).bind fun x4=>
       some (0,qL r {s with m:=x4.1} who [] 0))
      else some (1,qL r s who [] 0))
    else bif decide (f.2.2.1<1) then some (1,qL r s who [] 0)
    else bif decide (f.2.2.1>3) then some (1,qL r s who [] 0)
    else(Ic k r s.t f.2.2.1).bind fun x5=>
    bif !(decide (x5=0)) then some (x5,qL r s who [] 0)
    else(MV k s.m f.2.1 f.2.2.1).bind fun x6=>
    some (0,qL r {s with m:=x6.1} who [] 0):=rfl
  rw[eD,Lx (by omega) (by omega)];unfold kW fm;cases hx:vU s.m f.2.1 with
  |none=>exact by simp
  |some x=>
    have dw:=kQ hx;have e1:decide ((x:Int)<0)=false:=ab (by omega);simp only[ae,e1,ak,zY,aa dw.1,ai,ao];by_cases hw:(s.m.getD x (0,0,0,0,0,0,0)).2.1=who
    · have xq:(s.m.getD x pd).2.1=who:=hw;rw[aa hw];simp only[az,ak,ae];by_cases h2:f.1=2
      · rw[aa h2];obtain⟨n,rfl⟩:∃n,k=n+5:=⟨k-5,by omega⟩;have eo:eZ (n+5) 20 [f.2.1]=some (20,f.2.1,0,0,0,0,0):=by kernel_rfl
        simp only[ai,vm (show s.m.length<n+5 by omega) oU,ae,eo];unfold iF;rw[hx];exact⟨_,rfl,fun _=>rfl⟩
      · rw[ab h2];simp only[ak];by_cases h3:f.1=3
        · rw[aa h3,ab (show¬f.1=4 by omega)];simp only[ai,ak];by_cases h0:f.2.2.1=0
          · rw[aa h0];simp only[ai,aaR (show s.m.length<k by omega) oU hx,ae];exact⟨_,rfl,fun _=>rfl⟩
          · rw[ab h0];simp only[ak];by_cases h1:f.2.2.1=1
            · rw[aa h1];simp only[ai,aaQ (show s.m.length<k by omega) oU hx,ae];exact⟨_,rfl,fun _=>rfl⟩
            · rw[ab h1];exact by simp
        · rw[ab h3,aa (show f.1=4 by omega)];simp only[ak,ai,yLc,ae,vP2 (show s.m.length<k by omega) oU hx];by_cases c1:f.2.2.1<1
          · rw[aa c1,ab (show¬f.2.2.1≥1 by omega)];exact⟨_,rfl,fun e=>by cases e⟩
          · rw[ab c1,aa (show f.2.2.1≥1 by omega)];by_cases c2:f.2.2.1>3
            · rw[aa c2,ab (show¬f.2.2.1≤3 by omega)];exact⟨_,rfl,fun e=>by cases e⟩
            · rw[ab c2,aa (show f.2.2.1≤3 by omega)];simp only[Bool.and_self,az,ak];by_cases hc:qy r.2.2.1 r.2.2.2.1 s.t f.2.2.1=0
              · rw[aa hc];exact⟨_,rfl,fun _=>rfl⟩
              · rw[ab hc];exact by simp
    · rw[ab hw];exact⟨_,rfl,fun e=>by cases e⟩
theorem aaV {k}(hk:1000≤k){r}(hr:wT r){s}(hb:qR s.B)(hn:(s.B.1.length:Int)=r.1){who}(hw:0≤who∧who<r.1) f:
    ∃d,CT k (rk r s who) f.1 f.2=some ((kX r s who f).1,d)∧((kX r s who f).1=0→d=qL r (kX r s who f).2 who [] 0):=by
  obtain⟨w,rfl⟩:=Int.eq_ofNat_of_zero_le hw.1;have gH:w<s.B.1.length:=by omega
  have eD:CT k (rk r s w) f.1 f.2=(pn k s.B.1 s.B.2.1 s.B.2.2.1 s.B.2.2.2).bind fun x0=>
    bif decide (f.1 = 5) then ((vn k (qL r s w [] 0) f.2.1).bind fun x1=>
      bif decide (x1<0) then some (1,qL r s w [] 0)
      else bif decide (x1=(w:Int)) then some (1,qL r s w [] 0)
      else bif decide (f.2.2.1<(-1)) then some (1,qL r s w [] 0)
      else bif decide (f.2.2.1>1152921504606846976) then some (1,qL r s w [] 0)
      else bif zB (w : Int) x0.2.1.length then (bif zB x1 (x0.2.1.getD (w:Int).toNat []).length then
        some (0,qL r {s with B:=(x0.1,(x0.2.1.set (w:Int).toNat ((x0.2.1.getD (w:Int).toNat []).set x1.toNat f.2.2.1)),x0.2.2.1,x0.2.2.2)} w [] 0)
       else none)
      else none)
    else bif decide (f.1 = 6) then (bif decide (f.2.1<(-1)) then some (1,qL r s w [] 0)
      else bif decide (f.2.1>1152921504606846976) then some (1,qL r s w [] 0)
      else bif zB (w:Int) x0.2.2.1.length then some (0,qL r {s with B:=(x0.1,x0.2.1,(x0.2.2.1.set (w:Int).toNat f.2.1),x0.2.2.2)} w [] 0)
      else none)
    else bif decide (f.2.1<0) then some (1,qL r s w [] 0)
    else bif decide (f.2.1>1152921504606846976) then some (1,qL r s w [] 0)
    else bif zB (w:Int) x0.1.length then some (0,qL r {s with B:=((x0.1.set (w:Int).toNat ((x0.1.getD (w:Int).toNat (0,0,0)).1,(x0.1.getD (w:Int).toNat (0,0,0)).2.1,f.2.1)),x0.2.1,x0.2.2.1,x0.2.2.2)} w [] 0)
    else none:=rfl
  rw[eD,KX (by omega) hb.toSized,qRc];simp only[ae,zY,ao];have two:∀a b:Int,∀x:Int,decide (x<a)= !decide (x≥a)∧decide (x>b)= !decide (x≤b):=by
    intro a b x;constructor
    · by_cases h:x<a
      · rw[aa h,ab (show¬x≥a by omega)];rfl
      · rw[ab h,aa (show x≥a by omega)];rfl
    · by_cases h:x>b
      · rw[aa h,ab (show¬x≤b by omega)];rfl
      · rw[ab h,aa (show x≤b by omega)];rfl
  unfold kX;rw[ao,(two (-1) 1152921504606846976 f.2.2.1).1,(two (-1) 1152921504606846976 f.2.2.1).2,(two (-1) 1152921504606846976 f.2.1).1,(two (-1) 1152921504606846976 f.2.1).2,(two 0 0 f.2.1).1];by_cases h5:f.1=5
  · rw[aa h5];simp only[ai];by_cases hc:0≤f.2.1∧f.2.1<r.1
    · rw[qO5 hc,aa (show f.2.1≥0 by omega),aa (show f.2.1≤r.1-1 by omega),ab (show¬f.2.1<0 by omega)];have b1:decide (w<s.B.2.1.length)=true:=aa (by rw[hb.bl];exact gH);have b2:zB f.2.1 (s.B.2.1.getD w []).length=true:=wU hc.1 (by rw[hb.br w gH];omega);rw[b1,b2];cases decide (f.2.1=(w:Int)) with
      |true=>exact⟨_,rfl,fun e=>by cases e⟩
      |false=>
        cases decide (f.2.2.1≥-1) with
        |false=>exact⟨_,rfl,fun e=>by cases e⟩
        |true=>
          cases decide (f.2.2.1≤1152921504606846976) with
          |false=>exact⟨_,rfl,fun e=>by cases e⟩
          |true=>exact⟨_,rfl,fun _=>rfl⟩
    · rw[qZt hc];have g:(decide (f.2.1≥0)&&decide (f.2.1≤r.1-1))=false:=by
        by_cases a:f.2.1≥0
        · rw[aa a,ab (show¬f.2.1≤r.1-1 by omega)];rfl
        · rw[ab a];rfl
      rw[g];exact⟨_,rfl,fun e=>by cases e⟩
  · rw[ab h5];by_cases h6:f.1=6
    · rw[aa h6];have b1:decide (w<s.B.2.2.1.length)=true:=aa (by rw[hb.ml];exact gH);rw[b1];cases decide (f.2.1≥-1) with
      |false=>exact⟨_,rfl,fun e=>by cases e⟩
      |true=>
        cases decide (f.2.1≤1152921504606846976) with
        |false=>exact⟨_,rfl,fun e=>by cases e⟩
        |true=>exact⟨_,rfl,fun _=>rfl⟩
    · rw[ab h6];have b1:decide (w<s.B.1.length)=true:=aa gH;rw[b1];cases decide (f.2.1≥0) with
      |false=>exact⟨_,rfl,fun e=>by cases e⟩
      |true=>
        cases decide (f.2.1≤1152921504606846976) with
        |false=>exact⟨_,rfl,fun e=>by cases e⟩
        |true=>exact⟨_,rfl,fun _=>rfl⟩
theorem vDl {k l}(hl:l.length≤1000){i:Nat}(h1:i<l.length) v:vp k l i v=some (l.set i v):=by
 unfold vp;rw[qE (n:=0+l.length) (by omega) (by omega),aa (by simp),aa (by grind),zY,aa h1,ao];rfl
theorem vLu {r}(hr:wT r){s}(h:yD r s){who}(hw:0≤who∧who<r.1) a many:
    ∃d,RB 1000 (rk r s who) a many=some ((kY r s who a many).1,d)∧((kY r s who a many).1=0→d=qL r (kY r s who a many).2 who [] 0):=by
  have h3:=hr.n3;have hn:=h.n;have ie:=h.bk.n6;have hol:=h.hol;obtain⟨w,rfl⟩:=Int.eq_ofNat_of_zero_le hw.1;have gH:w<s.B.1.length:=by omega
  have eD:RB 1000 (rk r s w) a many=
    bif decide (a<0) then some (1,qL r s w [] 0)
    else bif decide (a≥(r.2.1.length:Int)) then some (1,qL r s w [] 0)
    else bif decide (many<0) then some (1,qL r s w [] 0)
    else bif decide (many>1099511627776) then some (1,qL r s w [] 0)
    else bif zB (w : Int) s.ho.length then ((vp 1000 (s.ho.getD (w:Int).toNat []) a many).bind fun x0=>
      (zc 1000 r.2.1 s.pr x0).bind fun x1=>
      bif !x1.2 then some (8,qL r s w [] 0)
      else bif decide (x1.1>1152921504606846976) then some (8,qL r s w [] 0)
      else(pn 1000 s.B.1 s.B.2.1 s.B.2.2.1 s.B.2.2.2).bind fun x2=>
      bif zB (w : Int) x2.1.length then (bif decide (x1.1 < (x2.1.getD (w : Int).toNat (0, 0, 0)).2.1) then (bif decide ((zA ((x2.1.getD (w:Int).toNat (0,0,0)).1+x1.1))<0) then some (9,qL r s w [] 0)
         else bif zB (w:Int) x2.1.length then(
          bif zM (0 + s.ho.length) 24 then (bif zB (w:Int) s.ho.length then
           some (0,qL r {s with B:=((x2.1.set (w:Int).toNat ((x2.1.getD (w:Int).toNat (0,0,0)).1,x1.1,(x2.1.getD (w:Int).toNat (0,0,0)).2.2)),x2.2.1,x2.2.2.1,x2.2.2.2),ho:=s.ho.set (w:Int).toNat x0} w [] 0)
           else none)
          else none)
         else none)
        else bif zB (w:Int) x2.1.length then(
         bif zM (0 + s.ho.length) 24 then (bif zB (w:Int) s.ho.length then
           some (0,qL r {s with B:=((x2.1.set (w:Int).toNat ((x2.1.getD (w:Int).toNat (0,0,0)).1,x1.1,(x2.1.getD (w:Int).toNat (0,0,0)).2.2)),x2.2.1,x2.2.2.1,x2.2.2.2),ho:=s.ho.set (w:Int).toNat x0} w [] 0)
          else none)
         else none)
        else none)
      else none)
    else none:=rfl
  rw[eD,KX (by omega) h.bk.toSized];simp only[ae,zY,ao];unfold kY;simp only[ao];by_cases c1:a<0
  · rw[aa c1,ab (show¬a≥0 by omega)];exact⟨_,rfl,fun e=>by cases e⟩
  rw[ab c1,aa (show a≥0 by omega)];by_cases c2:a≥(r.2.1.length:Int)
  · rw[aa c2,ab (show¬a≤(r.2.1.length:Int)-1 by omega)];exact⟨_,rfl,fun e=>by cases e⟩
  rw[ab c2,aa (show a≤(r.2.1.length:Int)-1 by omega)];by_cases c3:many<0
  · rw[aa c3,ab (show¬many≥0 by omega)];exact⟨_,rfl,fun e=>by cases e⟩
  rw[ab c3,aa (show many≥0 by omega)];by_cases c4:many>1099511627776
  · rw[aa c4,ab (show¬many≤1099511627776 by omega)];exact⟨_,rfl,fun e=>by cases e⟩
  rw[ab c4,aa (show many≤1099511627776 by omega)];obtain⟨i,rfl⟩:=Int.eq_ofNat_of_zero_le (show 0≤a by omega);have hi:i<r.2.1.length:=by omega
  have L:=h.laid w gH;have L2:=L.set hi (v:=many) ⟨by omega,by omega⟩;have b1:decide (w<s.ho.length)=true:=aa (by omega);have b2:decide (w<s.B.1.length)=true:=aa gH;have mv:vp 1000 (s.ho.getD w []) (i:Int) many=some ((s.ho.getD w []).set i many):=vDl (by rw[L.hl];omega) (by rw[L.hl];omega) many;have hv:=qPe L2;have hb:=h.bk.nums.bal w gH;have Bb:=Gr L2;have e24:zM (0+s.ho.length) 24=true:=qE (by omega) (by omega);simp only[Bool.and_self,az,ak,b1,ai,mv,ae,hv,b2,ao,e24];clear hv L2 eD;generalize gG r.2.1 s.pr ((s.ho.getD w []).set i many)=n at Bb⊢;unfold G3;cases Z3:decide (n>1152921504606846976) with
  |true=>exact⟨_,rfl,fun e=>by cases e⟩
  |false=>
    have h8:¬n>1152921504606846976:=gZ Z3;have w2:zA ((s.B.1.getD w (0,0,0)).1+n)=(s.B.1.getD w (0,0,0)).1+n:=zO (by have:=hb.1;simp only[ad] at this;omega) (by have:=hb.2;simp only[ad] at this;omega);simp only[w2,ak];cases decide (n<(s.B.1.getD w (0,0,0)).2.1) with
    |false=>exact⟨_,rfl,fun _=>rfl⟩
    |true=>
      cases decide ((s.B.1.getD w (0,0,0)).1+n<0) with
      |true=>exact⟨_,rfl,fun e=>by cases e⟩
      |false=>exact⟨_,rfl,fun _=>rfl⟩
theorem In9 {k}{a:qY}(ha:-4611686018427387904<a.1∧a.1<4611686018427387904){n}(hn:1≤n∧n≤1099511627776):Ie k a n=some (jU a n):=by
 unfold Ie jU HJ;rw[aa (by grind),zO (x:=9223372036854775807-n) (by omega) (by omega),ab (by grind),ab (by grind),zO (x:=a.1+n) (by omega) (by omega)];simp[X3];grind
theorem aaW {r}(hr:wT r){s}(h:yD r s) who kd to n (Kr:kd=10∨kd=11):
    ∃d,Ig 1000 (rk r s who) (decide (kd=10)) to n=some ((la r s kd to n).1,d)∧((la r s kd to n).1=0→d=qL r (la r s kd to n).2 who [] 0):=by
  have hn:=h.n;have ht:=h.tot;have eD:Ig 1000 (rk r s who) (decide (kd=10)) to n=(vn 1000 (qL r s who [] 0) to).bind fun x0=>
    bif decide (x0<0) then some (1,qL r s who [] 0)
    else bif decide (n<1) then some (1,qL r s who [] 0)
    else bif decide (n>1099511627776) then some (1,qL r s who [] 0)
    else(pn 1000 s.B.1 s.B.2.1 s.B.2.2.1 s.B.2.2.2).bind fun x1=>
    bif decide (kd = 10) then (bif zB x0 x1.1.length then ((Ie 1000 (x1.1.getD x0.toNat (0,0,0)) n).bind fun x2=>
      bif decide ((zA (s.to+n))>1152921504606846976) then some (8,qL r s who [] 0)
      else bif !(decide (x2.2=0)) then some (8,qL r s who [] 0)
      else bif zB x0 x1.1.length then some (0,qL r {s with B:=((x1.1.set x0.toNat x2.1),x1.2.1,x1.2.2.1,x1.2.2.2),to:=zA (s.to+n)} who [] 0)
      else none)
     else none)
    else bif zB x0 x1.1.length then (bif decide ((zA ((zA ((x1.1.getD x0.toNat (0,0,0)).1+(x1.1.getD x0.toNat (0,0,0)).2.1))-(x1.1.getD x0.toNat (0,0,0)).2.2))<n) then some (9,qL r s who [] 0)
     else bif decide (s.to<n) then some (9,qL r s who [] 0)
     else bif zB x0 x1.1.length then
      some (0,qL r {s with B:=((x1.1.set x0.toNat ((zA ((x1.1.getD x0.toNat (0,0,0)).1-n)),(x1.1.getD x0.toNat (0,0,0)).2)),x1.2.1,x1.2.2.1,x1.2.2.2),to:=zA (s.to-n)} who [] 0)
     else none)
    else none:=rfl
  rw[eD,qRc,KX (by omega) h.bk.toSized];simp only[ae];unfold la;by_cases hc:0≤to∧to<r.1
  · rw[qO5 hc,ab (show¬to<0 by omega),aa (show to≥0 by omega),aa (show to≤r.1-1 by omega)];by_cases c1:n<1
    · rw[aa c1,ab (show¬n≥1 by omega)];exact⟨_,rfl,fun e=>by cases e⟩
    rw[ab c1,aa (show n≥1 by omega)];by_cases c2:n>1099511627776
    · rw[aa c2,ab (show¬n≤1099511627776 by omega)];exact⟨_,rfl,fun e=>by cases e⟩
    rw[ab c2,aa (show n≤1099511627776 by omega)];obtain⟨i,rfl⟩:=Int.eq_ofNat_of_zero_le hc.1;have hi:i<s.B.1.length:=by omega
    have hb:=h.bk.nums.bal i hi;have kJ:=h.bk.nums.res i hi;have hcr:=h.most i hi;have aam:0≤(s.B.1.getD i ad).2.1:=by rw[h.cred i hi];exact Gr (h.laid i hi)
    have aaX:=tf.1 (h.bk.acct i hi);have b0:zB (i:Int) s.B.1.length=true:=by rw[zY,aa hi]
    have q2:zA (s.to-n)=s.to-n:=zO (by omega) (by omega);have q3:zA (s.to+n)=s.to+n:=zO (by omega) (by omega);have Mw:Ie 1000 (s.B.1.getD i (0,0,0)) n=some (jU (s.B.1.getD i ad) n):=In9 hb ⟨by omega,by omega⟩;simp only[Bool.and_self,az,ak,b0,ai,ao,Mw,ae,q2,q3];clear Mw eD;rcases Kr with e|e
    · rw[aa e,ab (show¬kd=11 by omega)];simp only[ai,ak];unfold Mv;cases hz:decide ((jU (s.B.1.getD i ad) n).2=0) with
      |false=>
        have e8:(jU (s.B.1.getD i ad) n).2=8:=by
          have:=gZ hz;unfold jU at this⊢;cases hx:fJ ((s.B.1.getD i ad).1+n,(s.B.1.getD i ad).2.1,(s.B.1.getD i ad).2.2) with
          |true=>rw[hx] at this;exact absurd rfl this
          |false=>rfl
        rw[e8];cases decide (s.to+n>1152921504606846976)<;>exact⟨_,rfl,fun e=>by cases e⟩
      |true=>
        cases decide (s.to+n>1152921504606846976) with
        |true=>exact⟨_,rfl,fun e=>by cases e⟩
        |false=>exact⟨_,rfl,fun _=>rfl⟩
    · rw[ab (show¬kd=10 by omega),aa e];simp only[ai,ak];unfold Mu;have q1:zA ((s.B.1.getD i (0,0,0)).1+(s.B.1.getD i (0,0,0)).2.1)=(s.B.1.getD i ad).1+(s.B.1.getD i ad).2.1:=zO (by simp only[ad] at*;omega) (by simp only[ad] at*;omega);have q4:zA ((s.B.1.getD i ad).1+(s.B.1.getD i ad).2.1-(s.B.1.getD i (0,0,0)).2.2)=(s.B.1.getD i ad).1+(s.B.1.getD i ad).2.1-(s.B.1.getD i ad).2.2:=zO (by simp only[ad] at*;omega) (by simp only[ad] at*;omega);have q5:zA ((s.B.1.getD i (0,0,0)).1-n)=(s.B.1.getD i ad).1+-n:=by rw[zO (by simp only[ad] at*;omega) (by simp only[ad] at*;omega)];rfl
      simp only[q1,q4,q5];by_cases c5:(s.B.1.getD i ad).1+(s.B.1.getD i ad).2.1-(s.B.1.getD i ad).2.2<n
      · rw[aa c5];exact⟨_,rfl,fun e=>by cases e⟩
      rw[ab c5];by_cases c6:s.to<n
      · rw[aa c6,aa (show s.to-n<0 by omega)];exact⟨_,rfl,fun e=>by cases e⟩
      rw[ab c6,ab (show¬s.to-n<0 by omega),ab (show¬s.to-n>1152921504606846976 by omega)];have em:jU (s.B.1.getD i ad) (-n)=(((s.B.1.getD i ad).1+-n,(s.B.1.getD i ad).2.1,(s.B.1.getD i ad).2.2),0):=by
        unfold jU;have:fJ ((s.B.1.getD i ad).1+-n,(s.B.1.getD i ad).2.1,(s.B.1.getD i ad).2.2)=true:=tf.2 ⟨by simp only;omega,aaX.2⟩;rw[this];rfl
      rw[em];exact⟨_,rfl,fun _=>rfl⟩
  · rw[qZt hc];have g:(decide (to≥0)&&decide (to≤r.1-1))=false:=by
      by_cases a:to≥0
      · rw[aa a,ab (show¬to≤r.1-1 by omega)];rfl
      · rw[ab a];rfl
    rw[g];exact⟨_,rfl,fun e=>by cases e⟩
theorem vRv {r s} who {pr}(hL:∀i,i<s.B.1.length→kh r.2.1 pr (s.ho.getD i []))(hol:s.ho.length=s.B.1.length)(ie:s.B.1.length≤6):
  (zZ (fun j=> !decide (gK r.2.1 pr s.ho j>1152921504606846976)) s.B.1.length 0=true∧vq 1000 1000 0 (rk r s who) pr s.B.1 s.B.2.1 s.B.2.2.1 s.B.2.2.2=some (.inl (rk r s who,pr,vf r.2.1 pr s.ho s.B.1,s.B.2.1,s.B.2.2.1,s.B.2.2.2)))∨
  (zZ (fun j=> !decide (gK r.2.1 pr s.ho j>1152921504606846976)) s.B.1.length 0=false∧vq 1000 1000 0 (rk r s who) pr s.B.1 s.B.2.1 s.B.2.2.1 s.B.2.2.2=some (.inr (8,rk r s who))):=by
 have:=Lc (L:=fun n i (a:List qY)=>vq 1000 n i (rk r s who) pr a s.B.2.1 s.B.2.2.1 s.B.2.2.2) (N:=s.B.1.length) (fun j=> !decide (gK r.2.1 pr s.ho j>1152921504606846976))
  (fun a=>.inl (rk r s who,pr,a,s.B.2.1,s.B.2.2.1,s.B.2.2.2)) (.inr (8,rk r s who))
  (fun i a => a.length = s.B.1.length ∧ ∀ j, j < s.B.1.length → a.getD j ad = if j < i then ((s.B.1.getD j ad).1, gK r.2.1 pr s.ho j, (s.B.1.getD j ad).2.2) else s.B.1.getD j ad) (fun n a ha=>by
   show Ih 1000 _ s.B.1.length (rk r s who) pr a s.B.2.1 s.B.2.2.1 s.B.2.2.2=_;unfold Ih;simp_all) (fun n i a hi ha=>by
   have hv:=qPe (hL i hi);have aI:vq 1000 (n+1) i (rk r s who) pr a s.B.2.1 s.B.2.2.1 s.B.2.2.2=bif decide (gK r.2.1 pr s.ho i>1152921504606846976) then some (.inr (8,rk r s who)) else vq 1000 n ((i+1:Nat):Int) (rk r s who) pr (a.set i ((a.getD i ad).1,gK r.2.1 pr s.ho i,(a.getD i ad).2.2)) s.B.2.1 s.B.2.2.1 s.B.2.2.2:=by
    show Ih 1000 _ i (rk r s who) pr a s.B.2.1 s.B.2.2.1 s.B.2.2.2=_;unfold Ih;have iO:zc 1000 (rk r s who).2.1 pr (s.ho.getD i [])=some (gK r.2.1 pr s.ho i,true):=hv;have eh:(rk r s who).2.2.2.2.2.2.2.2.2.2.2.1=s.ho:=rfl;simp only[eh,qS,zY,ao,aa (show i<s.ho.length by omega),aa (show i<a.length by omega),ai,iO,az,ak,qB hi (by grind)];rfl
   grind) s.B.1.length 0 1000 s.B.1 (by omega) (by omega) (by simp)
 rcases this with⟨h1,a,h2,h3,h4⟩|⟨h1,h2⟩
 ·have e:a=vf r.2.1 pr s.ho s.B.1:=EK ad (by rw[h3,qQh]) fun j hj=>by
   rw[h3] at hj;rw[h4 j hj,if_pos hj,qN3 _ _ _ _ hj]
  simp_all
 simp_all
theorem vPi {r}(hr:wT r){s}(h:yD r s) who a p:
  ∃d,RD 1000 (rk r s who) a p=some ((ld r s a p).1,d)∧((ld r s a p).1=0→d=qL r (ld r s a p).2 who [] 0):=by
 have h3:=hr.n3;have ie:=h.bk.n6;have o9:=h.bk.n1;have eD:RD 1000 (rk r s who) a p=
  bif decide (a<0) then some (1,qL r s who [] 0)
  else bif decide (a≥(r.2.1.length:Int)) then some (1,qL r s who [] 0)
  else bif decide (p<0) then some (1,qL r s who [] 0)
  else bif decide (p>1048576) then some (1,qL r s who [] 0)
  else(vp 1000 s.pr a p).bind fun x0=>
  (pn 1000 s.B.1 s.B.2.1 s.B.2.2.1 s.B.2.2.2).bind fun x1=>
  (vq 1000 1000 0 (rk r s who) x0 x1.1 x1.2.1 x1.2.2.1 x1.2.2.2).bind fun z=>
  match z with
  |.inl z1=>some (0,(jH z1.1 (Cx z1 (z1.2.1,(vAp z1.1 ([],z1.1.2.2.2.2.2.2.2.2.2.2.2.2.2.2.2.2.2))))))
  |.inr z2=>some (yMm z2 ([],z2.2.2.2.2.2.2.2.2.2.2.2.2.2.2.2.2.2.2)):=rfl
 rw[eD,KX (by omega) h.bk.toSized];simp only[ae];unfold ld;by_cases c1:a<0
 ·rw[aa c1,ab (show¬a≥0 by omega)];exact by simp
 rw[ab c1,aa (show a≥0 by omega)];by_cases c2:a≥(r.2.1.length:Int)
 ·grind
 rw[ab c2,aa (show a≤(r.2.1.length:Int)-1 by omega)];by_cases c3:p<0
 ·rw[aa c3,ab (show¬p≥0 by omega)];exact by simp
 rw[ab c3,aa (show p≥0 by omega)];by_cases c4:p>1048576
 ·rw[aa c4,ab (show¬p≤1048576 by omega)];exact by simp
 rw[ab c4,aa (show p≤1048576 by omega)];obtain⟨i,rfl⟩:=Int.eq_ofNat_of_zero_le (show 0≤a by omega);have hi:i<r.2.1.length:=by omega
 have L0:=h.laid 0 (by omega);have mv:vp 1000 s.pr (i:Int) p=some (s.pr.set i p):=vDl (by rw[L0.pl];omega) (by rw[L0.pl];omega) p;simp only[Bool.and_self,az,ak,mv,ae,ao];unfold HE;rcases vRv (r:=r) (s:=s) who (pr:=s.pr.set i p) (fun j hj=>(h.laid j hj).setP hi ⟨by omega,by omega⟩) h.hol ie with⟨g1,g2⟩|⟨g1,g2⟩
 ·rw[g2,g1];exact⟨_,rfl,fun _=>rfl⟩
 ·rw[g2,g1];exact⟨_,rfl,fun e=>by cases e⟩
theorem vW3 {k}(hk:100<k){B}(h:qR B){l:List zH}(hl:l.length≤80):Ld k B.1 B.2.1 B.2.2.1 B.2.2.2 l=some (xV B l):=vO8 hk h hl
theorem RE {k}(hk:100<k){B}(h:qR B){l:List zH}(hl:l.length≤80):
  ∃C:BT,vr k B.1 B.2.1 B.2.2.1 B.2.2.2 l=some (C.1,C.2.1,C.2.2.1,C.2.2.2,(iG k B l).isSome)∧(∀D,iG k B l=some D→D=C):=by
 obtain⟨r,h1,h2,h3⟩:=Gs hk h hl;unfold vr iG;rw[h2,h1,vW3 hk h hl];refine⟨(r.1,r.2.1,r.2.2.1,r.2.2.2.1),?_,?_⟩;all_goals grind
theorem vIh {k}(hk:100<k){B}(h:qR B)(m:List zH)(hm:m.length≤1000):∀c i n,i+c=m.length→c<n→
  M4 k n i B.1 B.2.1 B.2.2.1 B.2.2.2 0 0 0 0 0 0 0 m = some (match fW k B (m.drop i) with
   |some (p,C)=>.inr (true,p.1,p.2.1,p.2.2.1,p.2.2.2.1,p.2.2.2.2.1,p.2.2.2.2.2.1,p.2.2.2.2.2.2)
   |none=>.inl (0,0,0,0,0,0,0))
 |0,i,n,e,hn=>by
  obtain⟨n,rfl⟩:∃x,n=x+1:=⟨n-1,by omega⟩;have:i=m.length:=by omega
  subst this;show Ii k _ m.length B.1 B.2.1 B.2.2.1 B.2.2.2 0 0 0 0 0 0 0 m=_;unfold Ii;simp;rfl
 |c+1,i,n,e,hn=>by
  obtain⟨n,rfl⟩:∃x,n=x+1:=⟨n-1,by omega⟩;have hi:i<m.length:=by omega
  have ih:=vIh hk h m hm c (i+1) n (by omega) (by omega);show Ii k _ i B.1 B.2.1 B.2.2.1 B.2.2.2 0 0 0 0 0 0 0 m=_;unfold Ii;obtain⟨C,h1,h2⟩:=RE hk h (l:=[m.getD i pd]) (by simp);have c1:decide ((0:Int)≤(i:Int))=true:=by simp
  have c2:decide ((i:Int)≤((i+1:Nat):Int))=true:=by grind
  have c3:decide (((i+1:Nat):Int)≤(m.length:Int))=true:=by grind
  simp only[zY,qB hi (by grind),ao,vKz m i hi];rw[vGg k B hi];grind
theorem vCu {k} (hk : 100 < k) {B} (h : qR B) {l} (bL : l.length < k) (hl : qT l) t : RF k B.1 B.2.1 B.2.2.1 B.2.2.2 l t = some (match fW k B (wE l t) with
   |some (p,C)=>(p.1,p.2.1,p.2.2.1,p.2.2.2.1,p.2.2.2.2.1,p.2.2.2.2.2.1,p.2.2.2.2.2.2,true)
   |none=>(0,0,0,0,0,0,0,false)):=by
 unfold RF;rw[yRp bL hl];have Gv:=QC l t;unfold qT at hl;have:=vIh hk h (wE l t) (by omega) (wE l t).length 0 k (by omega) (by omega);grind
theorem aaY {k}(hk:100<k) t {B C l m done}(h:hZ k t B l done C m):∀n (r:List zH),qR B→l.length≤100→l.length<n→r.length+l.length≤1000→
  M5 k n l t B.1 B.2.1 B.2.2.1 B.2.2.2 r=some (m,C.1,C.2.1,C.2.2.1,C.2.2.2,r++done):=by
 induction h with
 |@stop B l hx=>
  intro n r hb hl hn hr;obtain⟨n,rfl⟩:∃x,n=x+1:=⟨n-1,by omega⟩;have h2:=vCu hk hb (l:=l) (by omega) (by show l.length≤1000;omega) t;rw[hx] at h2;show Ij k _ l t B.1 B.2.1 B.2.2.1 B.2.2.2 r=_;unfold Ij;simp_all
 |@step B C D l m done p hx _ ih=>
  intro n r hb hl hn hr;obtain⟨n,rfl⟩:∃x,n=x+1:=⟨n-1,by omega⟩;have h2:=vCu hk hb (l:=l) (by omega) (by show l.length≤1000;omega) t;rw[hx] at h2;obtain⟨hp,hg⟩:=B9 hx;have Ed:=Gt hp;obtain⟨tS,nK⟩:=uM Ed;obtain⟨nT,dq⟩:=sU hk hb (by simp) hg;have g2:=ih n (r++[p]) nT (by omega) (by omega) (by grind);show Ij k _ l t B.1 B.2.1 B.2.2.1 B.2.2.2 r=_;unfold Ij;rw[h2];obtain⟨C',e1,e2⟩:=RE hk hb (l:=[p]) (by simp);have:=e2 C hg;subst this;simp[vm (show l.length<k by omega) (show qT l by show l.length≤1000;omega),n9 (show r.length≤1000 by omega)];rw[List.append_cons r p done,←g2];have M6:vr k B.1 B.2.1 B.2.2.1 B.2.2.2 [(p.1,p.2.1,p.2.2.1,p.2.2.2.1,p.2.2.2.2.1,p.2.2.2.2.2.1,p.2.2.2.2.2.2)]=_:=e1;rw[M6];rfl
theorem vG1 {k}(hk:200≤k){B C}(hb:qR B){l m done}(hl:l.length≤100){t}(h:hZ k t B l done C m):RG k B.1 B.2.1 B.2.2.1 B.2.2.2 l t=some (C.1,C.2.1,C.2.2.1,C.2.2.2,m,done):=by
 unfold RG;rw[aaY (by omega) t h k [] hb hl (by omega) (by grind)];rfl
def yDd (x:Option (zH×zH×BT)):Int×Int×Int×Int×Int×Int×Int×Int×Int×Int×Int×Int×Int×Int×Bool:=match x with
 |some (p,q,C)=>(p.1,p.2.1,p.2.2.1,p.2.2.2.1,p.2.2.2.2.1,p.2.2.2.2.2.1,p.2.2.2.2.2.2,q.1,q.2.1,q.2.2.1,q.2.2.2.1,q.2.2.2.2.1,q.2.2.2.2.2.1,q.2.2.2.2.2.2,true)
 |none=>(0,0,0,0,0,0,0,0,0,0,0,0,0,0,false)
theorem yH6 {k}(hk:100<k){B}(h:qR B)(m:List zH)(hm:m.length≤1000){j}(hj:j<m.length):∀c i n,i+c=m.length→c<n→
  M7 k n j i B.1 B.2.1 B.2.2.1 B.2.2.2 0 0 0 0 0 0 0 0 0 0 0 0 0 0 m = some (match px k B (m.getD j pd) (m.drop i) with
   |some (q,C)=>.inr (true,(m.getD j pd).1,(m.getD j pd).2.1,(m.getD j pd).2.2.1,(m.getD j pd).2.2.2.1,(m.getD j pd).2.2.2.2.1,(m.getD j pd).2.2.2.2.2.1,(m.getD j pd).2.2.2.2.2.2,q.1,q.2.1,q.2.2.1,q.2.2.2.1,q.2.2.2.2.1,q.2.2.2.2.2.1,q.2.2.2.2.2.2)
   |none=>.inl ((j:Int),B.1,B.2.1,B.2.2.1,B.2.2.2,0,0,0,0,0,0,0,0,0,0,0,0,0,0,m))
 |0,i,n,e,hn=>by
  obtain⟨n,rfl⟩:∃x,n=x+1:=⟨n-1,by omega⟩;have:i=m.length:=by omega
  subst this;show Ik k _ j m.length B.1 B.2.1 B.2.2.1 B.2.2.2 0 0 0 0 0 0 0 0 0 0 0 0 0 0 m=_;unfold Ik;simp;rfl
 |c+1,i,n,e,hn=>by
  obtain⟨n,rfl⟩:∃x,n=x+1:=⟨n-1,by omega⟩;have hi:i<m.length:=by omega
  have ih:=yH6 hk h m hm hj c (i+1) n (by omega) (by omega);show Ik k _ j i B.1 B.2.1 B.2.2.1 B.2.2.2 0 0 0 0 0 0 0 0 0 0 0 0 0 0 m=_;unfold Ik;obtain⟨C,h1,h2⟩:=RE hk h (l:=[m.getD j pd,m.getD i pd]) (by simp);simp[zY,qB hi (by grind),h1];rw[vAk k B _ hi];unfold qw;grind
theorem yIl {k}(hk:100<k){B}(h:qR B)(m:List zH)(hm:m.length≤1000)(LQ:m.length<k):∀c i n,i+c=m.length→c<n→
  M8 k n i B.1 B.2.1 B.2.2.1 B.2.2.2 0 0 0 0 0 0 0 0 0 0 0 0 0 0 m = some (match sV k B m (m.drop i) with
   |some (p,q,C)=>.inr (true,p.1,p.2.1,p.2.2.1,p.2.2.2.1,p.2.2.2.2.1,p.2.2.2.2.2.1,p.2.2.2.2.2.2,q.1,q.2.1,q.2.2.1,q.2.2.2.1,q.2.2.2.2.1,q.2.2.2.2.2.1,q.2.2.2.2.2.2)
   |none=>.inl (0,0,0,0,0,0,0,0,0,0,0,0,0,0))
 |0,i,n,e,hn=>by
  obtain⟨n,rfl⟩:∃x,n=x+1:=⟨n-1,by omega⟩;have:i=m.length:=by omega
  subst this;show Il k _ m.length B.1 B.2.1 B.2.2.1 B.2.2.2 0 0 0 0 0 0 0 0 0 0 0 0 0 0 m=_;unfold Il;simp;rfl
 |c+1,i,n,e,hn=>by
  obtain⟨n,rfl⟩:∃x,n=x+1:=⟨n-1,by omega⟩;have hi:i<m.length:=by omega
  have ih:=yIl hk h m hm LQ c (i+1) n (by omega) (by omega);show Il k _ i B.1 B.2.1 B.2.2.1 B.2.2.2 0 0 0 0 0 0 0 0 0 0 0 0 0 0 m=_;unfold Il;have gz:=yH6 hk h m hm hi m.length 0 k (by omega) LQ;have e0:((0:Nat):Int)=0:=rfl;rw[e0,List.drop_zero] at gz;simp[aa hi];rw[gz];rw[yUj k B m hi];cases px k B (m.getD i pd) m with
  |none=>
   simp[qB hi (by grind)];exact ih
  |some x=>rfl
theorem vH4 {k}(hk:100<k){B}(h:qR B){l}(bL:l.length<k)(hl:qT l) t:RH k B.1 B.2.1 B.2.2.1 B.2.2.2 l t=some (yDd (fO k B l t)):=by
 unfold RH fO;rw[yRp bL hl];have Gv:=QC l t;unfold qT at hl;have:=yIl hk h (wE l t) (by omega) (by omega) (wE l t).length 0 k (by omega) (by omega);have e:((0:Nat):Int)=0:=rfl;rw[e,List.drop_zero] at this;simp;rw[this];cases sV k B (wE l t) (wE l t) with
 |none=>rfl
 |some x=>rfl
theorem vQl {k}(hk:100<k) t {B C l m done}(h:jV k t B l done C m):∀n (r:List zH),qR B→qK l→l.length≤100→l.length<n→r.length+l.length≤900→
  M9 k n l t B.1 B.2.1 B.2.2.1 B.2.2.2 r=some (m,C.1,C.2.1,C.2.2.1,C.2.2.2,r++done):=by
 induction h with
 |@stop B l hx=>
  intro n r hb hd hl hn hr;obtain⟨n,rfl⟩:∃x,n=x+1:=⟨n-1,by omega⟩;have h2:=vH4 hk hb (l:=l) (by omega) (by show l.length≤1000;omega) t;rw[hx] at h2;show Im k _ l t B.1 B.2.1 B.2.2.1 B.2.2.2 r=_;unfold Im;rw[h2];simp only[ae,yDd,bO,ai,List.append_nil]
 |@step B C D l m done p q hx _ ih=>
  intro n r hb hd hl hn hr;obtain⟨n,rfl⟩:∃x,n=x+1:=⟨n-1,by omega⟩;have h2:=vH4 hk hb (l:=l) (by omega) (by show l.length≤1000;omega) t;rw[hx] at h2;obtain⟨hp,hq,py,hg⟩:=Gx hx;obtain⟨tS,nK⟩:=Gy hd hp hq py;obtain⟨nT,dq⟩:=sU hk hb (by simp) hg;have sY:(fq l p.1).length≤l.length:=(uM hp).2.length_le;have g2:=ih n (r++[p,q]) nT (List.Pairwise.sublist nK hd) (by omega) (by omega) (by grind);have e2:r++[p,q]++done=r++p::q::done:=by rw[List.append_assoc];rfl
  show Im k _ l t B.1 B.2.1 B.2.2.1 B.2.2.2 r=_;unfold Im;rw[h2];obtain⟨C',e1,e2'⟩:=RE hk hb (l:=[p,q]) (by simp);have:=e2' C hg;subst this;have M6:vr k B.1 B.2.1 B.2.2.1 B.2.2.2 [(p.1,p.2.1,p.2.2.1,p.2.2.2.1,p.2.2.2.2.1,p.2.2.2.2.2.1,p.2.2.2.2.2.2),(q.1,q.2.1,q.2.2.1,q.2.2.2.1,q.2.2.2.2.1,q.2.2.2.2.2.1,q.2.2.2.2.2.2)]=_:=e1;have d1:=vm (show l.length<k by omega) (show qT l by show l.length≤1000;omega) p.1;have d2:=vm (k:=k) (l:=(iF l p.1).1) (Nat.lt_of_le_of_lt sY (by omega)) (Nat.le_trans sY (by omega)) q.1;have e3:zM (r.length+2) 56=true:=qE (by omega) (by omega);simp only[ae,yDd,M6,d1,d2,e3];rw[←e2,←g2];rfl
theorem yWf {k}(hk:200≤k){B C}(hb:qR B){l m done}(hd:qK l)(hl:l.length≤100){t}(h:jV k t B l done C m):RI k B.1 B.2.1 B.2.2.1 B.2.2.2 l t=some (C.1,C.2.1,C.2.2.1,C.2.2.2,m,done):=by
 unfold RI;rw[vQl (by omega) t h k [] hb hd hl (by omega) (by grind)];rfl
theorem qL8 {k l}(hk:l.length<k)(hl:qT l) many:Io k l many=some (vJ l many):=by
 unfold qT at hl;unfold Io;obtain ⟨s', h1, h2⟩ := yZ (L := fun n i s => Ip k n l many i s) (N := l.length) (fun s => s) (fun i s => s = mZ l many i) (fun n s _=>by
  show Iq k _ l many l.length s=_;unfold Iq;simp) (fun n i s hi hs=>by
  have dz:s.length≤i:=by rw[hs];exact ZC l many i
  refine⟨bif sW l many i then s++[l.getD i pd] else s,?_,?_⟩
  ·show Iq k _ l many i s=_;unfold Iq;have c1:decide ((0:Int)≤(i:Int))=true:=by simp
   have c2:decide ((i:Int)≤(l.length:Int))=true:=by grind
   have Y0:=Qj (k:=k) (l:=l.take i) (by grind) (by show(l.take i).length≤1000;grind) (l.getD i pd).2.1;simp only[zY,qB hi (by grind),qS,ao,aa hi,n9 (show s.length≤1000 by omega),c2,Y0];unfold sW jT;cases e1:decide ((l.getD i (0,(0,(0,(0,(0,(0,0))))))).2.1≥0) with
   |false=>rfl
   |true=>
    cases e2:decide ((l.getD i (0,(0,(0,(0,(0,(0,0))))))).2.1<(many.length:Int)) with
    |false=>rfl
    |true=>
     rw[aZ] at e1 e2;have hb:zB (l.getD i (0,(0,(0,(0,(0,(0,0))))))).2.1 many.length=true:=wU e1 (by omega);grind
  ·show _=mZ l many i++_;grind) (s:=[]) hk rfl
 have fg:Ip k k l many 0 []=some s':=h1;rw[fg,h2];rfl
theorem aaZ {k}{B:BT}{l}(hk:l.length<k)(hl:qT l)(hn:B.1.length<k)(ZM:B.1.length≤1000):
  CU k k 0 B.1 B.2.1 B.2.2.1 B.2.2.2 l []=some (B.1,B.2.1,B.2.2.1,B.2.2.2,l,ic l B.1.length):=by
 obtain ⟨s', h1, h2⟩ := yZ (L := fun n i (s : AC) => CU k n i B.1 B.2.1 B.2.2.1 B.2.2.2 l s) (N := B.1.length) (fun s => (B.1, B.2.1, B.2.2.1, B.2.2.2, l, s)) (fun i s => s = ic l i) (fun n s _=>by
  show Ir k _ B.1.length B.1 B.2.1 B.2.2.1 B.2.2.2 l s=_;unfold Ir;simp) (fun n i s hi hs=>by
  refine⟨_,?_,(vBh l i).symm⟩;show Ir k _ i B.1 B.2.1 B.2.2.1 B.2.2.2 l s=_;unfold Ir;have hr:zM (s.length+1) 8=true:=by rw[hs,xZ];exact qE (by omega) (by omega)
  simp[aa hi,Qj hk hl,hr,qB hi (by grind)];rw[hs];rfl) (s:=[]) hn rfl
 simp_all
theorem vRx {k}{B:BT}{l:List zH}{s m}(hk:s.length<k)(hs:s.length≤1000)(gz:∀x∈s,0≤x∧x<(m.length:Int))(h0:pz m)(hm:∀i,m.getD i 0≤1000) aP:
  Is k k aP 0 B.1 B.2.1 B.2.2.1 B.2.2.2 l m s=some (aP,B.1,B.2.1,B.2.2.1,B.2.2.2,l,ft s m):=by
 obtain ⟨s', h1, h2⟩ := yZ (L := fun n i (r : AC) => Is k n aP i B.1 B.2.1 B.2.2.1 B.2.2.2 l r s) (N := s.length) (fun r => (aP, B.1, B.2.1, B.2.2.1, B.2.2.2, l, r)) (fun i r => r = ft (s.take i) m) (fun n r _=>by
  show Iu k _ aP s.length B.1 B.2.1 B.2.2.1 B.2.2.2 l r s=_;unfold Iu;simp) (fun n i r hi hr=>by
  refine⟨_,?_,(yPk s m i hi).symm⟩;show Iu k _ aP i B.1 B.2.1 B.2.2.1 B.2.2.2 l r s=_;unfold Iu;obtain⟨b1,b2⟩:=gz _ (jY (d:=0) hi);have rW:r.length=m.length:=by rw[hr,uO]
  have hb:zB (s.getD i 0) r.length=true:=wU b1 (by omega);have XJ:=LU (s.take i) m (s.getD i 0).toNat;have ud:=h0 (s.getD i 0).toNat;have pc:=hm (s.getD i 0).toNat;have bd:(s.take i).length≤s.length:=by grind
  have hw:zA (r.getD (s.getD i 0).toNat 0-1)=r.getD (s.getD i 0).toNat 0-1:=by
   rw[hr];exact zO (by omega) (by omega)
  simp only[qS,zY,ao,aa hi,ai,hb,hw,qB hi (by grind)];rw[hr]) (s:=m) hk rfl
 simp_all
theorem vU4 {k}(hk:100<k){B}(hb:qR B){l}(hl:∀q∈l,yN B.1.length q)(bQ:l.length≤64){m f n}(h:kS B l m f n):
  ∀N (s7:Int),m.length=B.1.length→pz m→(∀i,m.getD i 0≤1000)→n<N→0≤s7→s7+n<1000000→
  Na k N s7 B.1 B.2.1 B.2.2.1 B.2.2.2 l m=some (s7+n,f):=by
 induction h with
 |@stop m h=>
  intro N s7 hm h0 h1 hn hs pU;obtain⟨N,rfl⟩:∃x,N=x+1:=⟨N-1,by omega⟩;show Iv k _ s7 B.1 B.2.1 B.2.2.1 B.2.2.2 l m=_;unfold Iv;have hS:=yNr hk hb (LV hl bQ m);have oR:uF k B.1 B.2.1 B.2.2.1 B.2.2.2 (vJ l m)=some (eS B (vJ l m)):=hS;rw[qL8 (by omega) (show qT l by show l.length≤1000;omega)];simp_all
 |@step m f n h h' ih=>
  intro N s7 hm h0 h1 hn hs pU;obtain⟨N,rfl⟩:∃x,N=x+1:=⟨N-1,by omega⟩;have ie:=hb.n6;show Iv k _ s7 B.1 B.2.1 B.2.2.1 B.2.2.2 l m=_;unfold Iv;have hS:=yNr hk hb (LV hl bQ m);have oR:uF k B.1 B.2.1 B.2.2.1 B.2.2.2 (vJ l m)=some (eS B (vJ l m)):=hS;rw[qL8 (by omega) (show qT l by show l.length≤1000;omega)];simp only[ae];rw[oR];simp only[ae];have w:zA (s7+1)=s7+1:=zO (by omega) (by omega);have bx : decide ((((eS B (vJ l m)).length : Nat) : Int) = 0) = false := ab (by
   have:=List.length_pos_iff.2 h;omega)
  have dz:(eS B (vJ l m)).length≤B.1.length:=by
   unfold eS uH;grind
  rw[bx];simp;rw[vRx (by omega) (by omega) (by rw[hm];exact ZB) h0 h1];simp[w];have ZN:=QI hl hm h0;have:=ih N (s7+1) ((uO _ _).trans hm) ZN (fun i=>by have:=(LU (eS B (vJ l m)) m i).2;have:=h1 i;omega) (by omega) (by omega) (by omega);rw[this]
  congr 2
  omega
theorem vNq {k}(hk:100<k){B}(hb:qR B){l}(hl:∀q∈l,yN B.1.length q)(bQ:l.length≤64) t {f n}(hn:n≤l.length)(h:kS B (vA l t) (ic (vA l t) B.1.length) f n):
  RJ k B.1 B.2.1 B.2.2.1 B.2.2.2 l t=some (f,((n+1:Nat):Int)):=by
 have ie:=hb.n6;have hr:=ya l t;have h1:=QJ (l:=vA l t) (by omega) B.1.length;unfold RJ;rw[YX (by omega) (by show l.length≤1000;omega)];simp;have e:CU k k 0 B.1 B.2.1 B.2.2.1 B.2.2.2 (l.filter (kg t)) []=_:=aaZ (k:=k) (B:=B) (l:=vA l t) (by omega) (by show(vA l t).length≤1000;omega) (by omega) (by omega);rw[e];simp;rw[vU4 hk hb (LW hl) (by omega) h k 1 (xZ _ _) h1.1 h1.2 (by omega) (by omega) (by omega)];grind
theorem vZ7 {k}{C:BT}{l hs:List zH}(hl:l.length<k)(dO:l.length≤1000)(hk:hs.length<k)(hh:hs.length≤1000):
  CV k k l 0 hs C.1 C.2.1 C.2.2.1 C.2.2.2=some (pA l hs,hs,C.1,C.2.1,C.2.2.1,C.2.2.2):=by
 obtain ⟨s', h1, h2⟩ := yZ (L := fun n i (s : List zH) => CV k n s i hs C.1 C.2.1 C.2.2.1 C.2.2.2) (N := hs.length) (fun s => (s, hs, C.1, C.2.1, C.2.2.1, C.2.2.2)) (fun i s => s = pA l (hs.take i)) (fun n s _=>by
  show Iw k _ s hs.length hs C.1 C.2.1 C.2.2.1 C.2.2.2=_;unfold Iw;simp) (fun n i s hi hr=>by
  refine⟨_,?_,(yHp l hs i hi).symm⟩;show Iw k _ s i hs C.1 C.2.1 C.2.2.1 C.2.2.2=_;unfold Iw;have dz:=(QK (hs.take i) l).1;rw[←hr] at dz⊢;simp[zY,aa hi,vm (show s.length<k by omega) (show qT s by show s.length≤1000;omega),qB hi (by grind)];rfl) (s:=l) hk rfl
 simp_all
theorem aa0 {k}(hk:100<k){B}(hb:qR B){l}(hl:∀q∈l,yN B.1.length q)(bQ:l.length≤64) t {f n}(hn:n≤l.length)(h:kS B (vA l t) (ic (vA l t) B.1.length) f n)
  {r:List qY×EQ×AC×EQ×Int} (hr:BV k B.1 B.2.1 B.2.2.1 B.2.2.2 (vJ (vA l t) f)=some r):Nb k B.1 B.2.1 B.2.2.1 B.2.2.2 l t=some (GC B l (vJ (vA l t) f) r):=by
 have rW:=ya l t;have QM:=(xY (vA l t) f).length_le;unfold Nb;rw[vNq hk hb hl bQ t hn h,YX (by omega) (by show l.length≤1000;omega)];simp;have e:Io k (l.filter (kg t)) f=_:=qL8 (k:=k) (l:=vA l t) (by omega) (by show(vA l t).length≤1000;omega) f;rw[e];simp;rw[hr];simp;unfold GC;cases decide (r.2.2.2.2=0) with
 |false=>rfl
 |true=>
  have e2:CV k k l 0 (vJ (vA l t) f) r.1 r.2.1 r.2.2.1 r.2.2.2.1=_:=vZ7 (C:=(r.1,r.2.1,r.2.2.1,r.2.2.2.1)) (by omega) (by omega) (by omega) (by omega);simp_all
theorem hZ.books {k}(hk:100<k){t B C l done m}(h:hZ k t B l done C m)(hb:qR B)(hd:qK l):qR C∧C.1.length=B.1.length∧List.Sublist m l:=by
 induction h with
 |stop _=>simp_all
 |step h _ ih=>
  obtain⟨hp,hg⟩:=B9 h;obtain⟨h1,h2⟩:=uM (Gt hp);obtain⟨h3,h4⟩:=sU hk hb (by simp) hg;obtain⟨g1,g2,g3⟩:=ih h3 (List.Pairwise.sublist h2 hd);exact⟨g1,g2.trans h4,g3.trans h2⟩
theorem jV.books {k}(hk:100<k){t B C l done m}(h:jV k t B l done C m)(hb:qR B)(hd:qK l):qR C∧C.1.length=B.1.length∧List.Sublist m l:=by
 induction h with
 |stop _=>simp_all
 |step h _ ih=>
  obtain⟨hp,hq,py,hg⟩:=Gx h;obtain⟨h1,h2⟩:=Gy hd hp hq py;obtain⟨h3,h4⟩:=sU hk hb (by simp) hg;obtain⟨g1,g2,g3⟩:=ih h3 (List.Pairwise.sublist h2 hd);exact⟨g1,g2.trans h4,g3.trans h2⟩
theorem vOb {k}(hk:200≤k){t B C l m done}(h:mr k t B l done C m):∀n (r:List zH),qR B→qK l→l.length≤100→l.length<n→r.length+l.length≤900→
  Nc k n l t B.1 B.2.1 B.2.2.1 B.2.2.2 r=some (m,C.1,C.2.1,C.2.2.1,C.2.2.2,r++done):=by
 induction h with
 |@stop B C l m d h1 h2=>
  intro n r hb hd hl hn hr;obtain⟨n,rfl⟩:∃x,n=x+1:=⟨n-1,by omega⟩;have p1:=h1.perm hd;have l1:=p1.length_eq;rw[ay] at l1;obtain⟨g1,g2,g3⟩:=h1.books (by omega) hb hd;have f1:=vG1 hk hb hl h1;have f2:=yWf hk g1 (List.Pairwise.sublist g3 hd) (by omega) (jV.stop (t:=t) h2);have r1:zM (r.length+d.length) 56=true:=qE (by omega) (by omega);show Ix k _ l t B.1 B.2.1 B.2.2.1 B.2.2.2 r=_;unfold Ix;grind
 |@step B C D E l m n' o d e f h1 h2 ne h' ih=>
  intro n r hb hd hl hn hr;obtain⟨n,rfl⟩:∃x,n=x+1:=⟨n-1,by omega⟩;have p1:=h1.perm hd;have l1:=p1.length_eq;rw[ay] at l1;obtain⟨g1,g2,g3⟩:=h1.books (by omega) hb hd;have hm:qK m:=List.Pairwise.sublist g3 hd;have p2:=h2.perm hm;have l2:=p2.length_eq;rw[ay] at l2;obtain⟨k1,k2,k3⟩:=h2.books (by omega) g1 hm;have f1:=vG1 hk hb hl h1;have f2:=yWf hk g1 hm (by omega) h2;have lX:=List.length_pos_iff.2 ne;have r1:zM (r.length+d.length) 56=true:=qE (by omega) (by omega);have r2:zM ((r++d).length+e.length) 56=true:=qE (by rw[ay];omega) (by rw[ay];omega);have:=ih n (r++d++e) k1 (List.Pairwise.sublist k3 hm) (by omega) (by omega) (by simp;omega);show Ix k _ l t B.1 B.2.1 B.2.2.1 B.2.2.2 r=_;unfold Ix;grind
theorem yKx {k}(hk:200≤k){t B C l m done}(hb:qR B)(hd:qK l)(hl:l.length≤100)(h:mr k t B l done C m):
  Nd k B.1 B.2.1 B.2.2.1 B.2.2.2 l t=some (C.1,C.2.1,C.2.2.1,C.2.2.2,m,done):=by
 unfold Nd;rw[vOb hk h k [] hb hd hl (by omega) (by grind)];rfl
theorem aa1 {k}(hk:200≤k){B}(hb:qR B){l:List zH}(hl:∀q∈l,yN B.1.length q)(bQ:l.length≤64) t:
  ∃r,Cd k B.1 B.2.1 B.2.2.1 B.2.2.2 l t=some r∧Nb k B.1 B.2.1 B.2.2.1 B.2.2.2 l t=some r:=by
 obtain⟨f,n,h,hn⟩:=ZE hb hl bQ t;have rW:=ya l t;have QM:=(xY (vA l t) f).length_le;obtain⟨r,h1,h2,h3⟩:=Gs (k:=k) (by omega) hb (l:=vJ (vA l t) f) (by omega);exact⟨_,ZQ (k:=k) (by omega) hb hl bQ t (by omega) h h1,aa0 (k:=k) (by omega) hb hl bQ t (by omega) h h2⟩
theorem vN3 {k}(hk:200≤k){B}(hb:qR B){l}(hd:qK l)(hl:∀q∈l,yN B.1.length q)(bQ:l.length≤64) t all:
  ∃(C:BT) (m done:List zH),yc k B.1 B.2.1 B.2.2.1 B.2.2.2 l t all=some (C.1,C.2.1,C.2.2.1,C.2.2.2,m,done)∧RK k B.1 B.2.1 B.2.2.1 B.2.2.2 l t all=some (C.1,C.2.1,C.2.2.1,C.2.2.2,m,done)∧
   qR C∧C.1.length=B.1.length∧List.Sublist m l∧List.Perm (done++m) l∧fW k C (wE m t)=none∧fO k C m t=none:=by
 obtain⟨C,m,d,f1,f2,f3,f4,f5⟩:=GO hk hb hd (by omega) t;have fr:=yKx hk hb hd (by omega) f2;have p1:=f2.perm hd;have l1:=p1.length_eq;rw[ay] at l1;unfold yc RK;rw[f1,fr];simp only[ae];cases all with
 |false=>exact⟨C,m,d,rfl,rfl,f3,f4,f5,p1,f2.final⟩
 |true=>
  have hm:qK m:=List.Pairwise.sublist f5 hd;have hmm:∀q∈m,yN C.1.length q:=by grind
  obtain⟨D,n,x,g1,g2,g3,g4,g5,g6⟩:=ZR hk f3 hm hmm (by omega) t;obtain⟨R,r1,r2⟩:=aa1 hk f3 hmm (by omega) t;have hR:R=(D.1,D.2.1,D.2.2.1,D.2.2.2,n,x):=by rw[g1] at r1;exact(Option.some.inj r1).symm
  subst hR;have l2:=g5.length_eq;rw[ay] at l2;rw[g1,r2];simp only[ae];cases x with
  |nil=>
   obtain⟨rfl,rfl⟩:=g6 rfl;exact⟨D,n,d,rfl,rfl,f3,f4,f5,p1,f2.final⟩
  |cons p x=>
   have e1:decide ((((p::x).length:Nat):Int)=0)=false:=ab (by simp;omega);rw[e1];have hn:qK n:=List.Pairwise.sublist g4 hm;obtain⟨E,o,y,k1,k2,k3,k4,k5⟩:=GO hk g2 hn (by omega) t;have kr:=yKx hk g2 hn (by omega) k2;have p3:=k2.perm hn;have l3:=p3.length_eq;rw[ay] at l3;have e2:zM (d.length+(p::x).length) 56=true:=qE (by simp at l2⊢;omega) (by simp at l2⊢;omega);have e3:zM ((d++(p::x)).length+y.length) 56=true:=qE (by simp at l2⊢;omega) (by simp at l2⊢;omega);rw[k1,kr];simp only[ae,e2,e3,ai];refine⟨E,o,d++(p::x)++y,rfl,rfl,k3,k4.trans (g3.trans f4),k5.trans (g4.trans f5),?_,k2.final⟩;have e4:d++(p::x)++y++o=d++((p::x)++(y++o)):=by simp
   rw[e4];exact by grind
theorem yFy {B:BT}(hb:qR B){m:List zH}(hd:qK m)(hm:∀q∈m,yN B.1.length q)(bQ:m.length≤64)(t:Int)(pr:AC)(ho:EQ)(ids:AC)(to:Int)(ov all:Bool):
  ∃(C:BT) (m' d:List zH),uR 1000 t B.1 B.2.1 B.2.2.1 B.2.2.2 pr ho m ids to ov all=some (t,C.1,C.2.1,C.2.2.1,C.2.2.2,pr,ho,m',ids,to,ov,vT d)∧
   ow 1000 t B.1 B.2.1 B.2.2.1 B.2.2.2 pr ho m ids to ov all=some (t,C.1,C.2.1,C.2.2.1,C.2.2.2,pr,ho,m',ids,to,ov,vT d)∧qR C∧fZ B C∧List.Sublist m' m∧List.Perm (d++m') m∧fW 1000 C (wE m' t)=none:=by
 obtain⟨C,m',d,f1,fr,f2,f3,f4,f5,f6,f7⟩:=vN3 (k:=1000) (by decide) hb hd hm bQ t all;have hlen:=f5.length_eq;rw[ay] at hlen;refine⟨C,m',d,?_,?_,f2,vEo (by decide) hb hd hm bQ t all f1,f4,f5,f6⟩
 ·unfold uR;rw[f1];simp only[ae];rw[yZ7 (by omega) (by omega)];rfl
 ·unfold ow;rw[fr];simp only[ae];rw[vM1 (by omega) (by omega)];rfl
theorem CW kd a:eZ 1000 kd [a]=some (kd,a,0,0,0,0,0):=by rfl
theorem Of0 kd:eZ 1000 kd []=some (kd,0,0,0,0,0,0):=by rfl
theorem Of5 kd a b c d e:eZ 1000 kd [a,b,c,d,e]=some (kd,a,b,c,d,e,0):=by rfl
theorem aa2 (s:qD)(hm:s.m.length≤100)(b:Int×Int×Bool):zo 1000 1000 s.m 0 s.st b []=some (s.st,b,s.m.map (wP 22)):=by
 obtain ⟨s', h1, h2⟩ := yZ (L := fun n i (o : List yI) => zo 1000 n s.m i s.st b o) (N := s.m.length) (fun o => (s.st, b, o)) (fun i o => o = (s.m.take i).map (wP 22)) (fun n o _=>by
  show Iy 1000 (zo 1000 n) s.m s.m.length s.st b o=_;unfold Iy;simp) (fun n i o hi ho=>by
  refine⟨_,?_,(vC0 (wP 22) s.m i pd hi).symm⟩;show Iy 1000 (zo 1000 n) s.m i s.st b o=_;unfold Iy;have dz:o.length≤900:=by grind
  rw[aa (by grind),zY,aa hi,ao,CW,qB hi (by omega)];simp only[yd (show o.length≤1000 by omega)];rw[ho];rfl) (s:=[]) (show s.m.length<1000 by omega) rfl
 simp_all
theorem aa3 (s:qD)(hB:s.B.1.length≤6)(b:Int×Int×Bool)(l:List yI)(hl:l.length≤100):zp 1000 1000 0 s.st b l=some (s.st,b,l++iX s.B s.B.1.length):=by
 have ea:s.st.2.1=s.B.1:=rfl;obtain ⟨s', h1, h2⟩ := yZ (L := fun n i (o : List yI) => zp 1000 n i s.st b o) (N := s.B.1.length) (fun o => (s.st, b, o)) (fun i o => o = l ++ iX s.B i) (fun n o _=>by
  show Iz 1000 (zp 1000 n) s.B.1.length s.st b o=_;unfold Iz;simp_all) (fun n i o hi ho=>by
  refine⟨_,?_,(show l++iX s.B i++[yg s.B i]=l++iX s.B (i+1) by rw[vD8,List.append_assoc])⟩;show Iz 1000 (zp 1000 n) i s.st b o=_;unfold Iz;have dz:o.length≤900:=by
   rw[ho,ay];unfold iX;grind
  rw[ea,aa (by grind),zY,aa hi,ao,CW,qB hi (by omega)];simp only[yd (show o.length≤1000 by omega)];rw[ho];rfl) (s:=l) (show s.B.1.length<1000 by omega) (by show _=_++[];simp)
 simp_all
theorem vNg {a b p}(hd:qK (a++p::b)):iF (a++p::b) p.1=(a++b,p.1,p.2.1,p.2.2.1,p.2.2.2.1,p.2.2.2.2.1,p.2.2.2.2.2.1,p.2.2.2.2.2.2,0):=by
 have hl:a.length<(a++p::b).length:=by simp
 have hg:(a++p::b).getD a.length pd=p:=by simp
 have hp:=vXf hd hl;rw[hg] at hp;unfold fm at hp;unfold iF;cases hx:vU (a++p::b) p.1 with
 |none=>simp_all
 |some x=>
  rw[hx] at hp;simp only at hp;obtain rfl:x=a.length:=by omega
  unfold yK;simp
theorem vTy (r:qP)(s:qD)(hd:qK s.m)(hm:s.m.length≤100)(b:Int×Int×Bool):
  vt 1000 1000 s.m 0 r s.st b []=some (r,qD.st {s with m:=s.m.filter (fun p=> !vD s.t p)},b,(s.m.filter (vD s.t)).map (wP 21)):=by
 obtain ⟨s', h1, h2, h3⟩ := yZ (L := fun n i (x : List zH × List yI) => vt 1000 n s.m i r (qD.st { s with m := x.1 }) b x.2) (N := s.m.length) (fun x => (r, qD.st { s with m := x.1 }, b, x.2)) (fun i x => x.1 = (s.m.take i).filter (fun p => !vD s.t p) ++ s.m.drop i ∧ x.2 = ((s.m.take i).filter (vD s.t)).map (wP 21)) (fun n x _=>by
  show IA 1000 (vt 1000 n) s.m s.m.length r _ b _=_;unfold IA;rw [ab (Int.lt_irrefl _)]; rfl) (fun n i x hi hx=>by
  have f1:=B2 (vD s.t) s.m i pd hi;have f2:=B2 (fun p=> !vD s.t p) s.m i pd hi;have hdr:s.m.drop i=s.m.getD i pd::s.m.drop (i+1):=by rw[List.drop_eq_getElem_cons hi,Cw _ hi]
  have nK:x.2.length≤900:=by
   rw[hx.2,List.length_map];have:=List.length_filter_le (vD s.t) (s.m.take i);rw[bP] at this;omega
  have tS:x.1.length≤s.m.length:=by
   rw[hx.1,ay,List.length_drop];have:=List.length_filter_le (fun p=> !vD s.t p) (s.m.take i);rw[bP] at this;omega
  have cP:List.Sublist x.1 s.m:=by
   have h:=List.Sublist.append (List.filter_sublist (p:=fun p=> !vD s.t p) (l:=s.m.take i)) (List.Sublist.refl (s.m.drop i));rw[List.take_append_drop] at h;rw[hx.1];exact h
  have hdx:qK x.1:=List.Pairwise.sublist cP hd;have e0:∀p:zH,yD7 1000 p.1 p.2.1 p.2.2.1 p.2.2.2.1 p.2.2.2.2.1 p.2.2.2.2.2.1 p.2.2.2.2.2.2 s.t=some (vD s.t p):=fun p=>rfl
  have ed:s.m.getD i (0,0,0,0,0,0,0)=s.m.getD i pd:=rfl;have et:(qD.st {s with m:=x.1}).1=s.t:=rfl;have em:(qD.st {s with m:=x.1}).2.2.2.2.2.2.2.1=x.1:=rfl;show∃s',IA 1000 (vt 1000 n) s.m i r (qD.st {s with m:=x.1}) b x.2=_∧_;unfold IA;rw[aa (show(i:Int)<s.m.length by omega),zY,aa hi,ao,ed,et,em,e0,CW,qB hi (by omega),vm (by omega) (by unfold qT;omega)];simp only[ai,ae,yd (show x.2.length≤1000 by omega)];cases hb:vD s.t (s.m.getD i pd) with
  |true=>
   have dw:=hx.1;rw[hdr] at dw;have e1:=vNg (a:=(s.m.take i).filter (fun p=> !vD s.t p)) (b:=s.m.drop (i+1)) (p:=s.m.getD i pd) (by rw[←dw];exact hdx);rw[←dw] at e1;rw[e1];refine⟨((s.m.take i).filter (fun p=> !vD s.t p)++s.m.drop (i+1),x.2++[wP 21 (s.m.getD i pd)]),rfl,?_,?_⟩
   ·show _=_;rw[f2,hb];simp
   ·show x.2++_=_;rw[f1,hb,hx.2];simp
  |false=>
   refine⟨x,rfl,?_,?_⟩
   ·rw[f2,hb,hx.1,hdr];simp
   ·rw[f1,hb,hx.2];simp) (s:=(s.m,[])) (show s.m.length<1000 by omega) ⟨by simp,rfl⟩
 rw[List.take_length,List.drop_length,List.append_nil] at h2;rw[List.take_length] at h3;have fg:vt 1000 1000 s.m 0 r s.st b []=_:=h1;rw[fg,h2,h3]
theorem vWq (r:qP){s:qD}(hb:qR s.B)(hd:qK s.m)(hm:∀q∈s.m,yN s.B.1.length q)(bQ:s.m.length≤64)(ht:0≤s.t∧s.t<1099511627776)(Ma:r.2.2.2.2≠0)(ho:s.ov=false):
  ∃x:Int×List qY×jL×AC×jL×AC×jL×List zH×AC×Int×Bool×List yI,yh 1000 r.1 r.2.1 r.2.2.1 r.2.2.2.1 r.2.2.2.2 s.t s.B.1 s.B.2.1 s.B.2.2.1 s.B.2.2.2 s.pr s.ho s.m s.ids s.to s.ov=some x∧IB 1000 r s.st=some (qO x,x.2.2.2.2.2.2.2.2.2.2.2):=by
 have ie:=hb.n6;have w:zA (s.t+1)=s.t+1:=zO (by omega) (by omega);have eR:IB 1000 r s.st=bif s.ov then some (s.st,[])
  else(RM 1000 r (zA (s.t+1))).bind fun x0=>
  bif x0 then ((zo 1000 1000 s.m 0 ((zA (s.t+1)),s.st.2) (0,0,false) []).bind fun z=>
   (zp 1000 1000 0 z.1 z.2.1 z.2.2).bind fun z1=>
   some ((kk z1.1 ([],z1.1.2.2.2.2.2.2.2.2.1,z1.1.2.2.2.2.2.2.2.2.2.1,true)),z1.2.2))
  else(vt 1000 1000 s.m 0 r ((zA (s.t+1)),s.st.2) (0,0,false) []).bind fun z2=>
  (Nf 1000 z2.1 z2.2.1.1).bind fun x6=>
  (ow 1000 z2.2.1.1 z2.2.1.2.1 z2.2.1.2.2.1 z2.2.1.2.2.2.1 z2.2.1.2.2.2.2.1 z2.2.1.2.2.2.2.2.1 z2.2.1.2.2.2.2.2.2.1 z2.2.1.2.2.2.2.2.2.2.1 z2.2.1.2.2.2.2.2.2.2.2.1 z2.2.1.2.2.2.2.2.2.2.2.2.1 z2.2.1.2.2.2.2.2.2.2.2.2.2 x6).bind fun x7=>
  bif zM (z2.2.2.2.length+x7.2.2.2.2.2.2.2.2.2.2.2.length) 64 then some ((qO x7),(z2.2.2.2++x7.2.2.2.2.2.2.2.2.2.2.2))
  else none:=rfl
 have eT:((s.t+1,s.st.2):sZ)=qD.st {s with t:=s.t+1}:=rfl;rw[eR,w,eT,ho];unfold yh Cg RM;simp only[w,ak,ae];cases hc:decide (s.t+1=r.2.2.2.1) with
 |true=>
  simp only[ai];rw[yL5 ie (by decide) (by omega)];have c0:=aa2 {s with t:=s.t+1,ov:=false} (by show s.m.length≤100;omega) (0,0,false);have c1:=aa3 {s with t:=s.t+1,ov:=false} (by show s.B.1.length≤6;exact ie) (0,0,false) (s.m.map (wP 22)) (by rw[List.length_map];omega);refine⟨_,rfl,?_⟩;refine(congrArg (fun z=>Option.bind z _) c0).trans ?_;refine(congrArg (fun z=>Option.bind z _) c1).trans ?_;rfl
 |false=>
  simp only[ak];rw[yXr (by decide) (by omega)];have c2:=vTy r {s with t:=s.t+1,ov:=false} hd (by show s.m.length≤100;omega) (0,0,false);have hs:∃x,G1 1000 r.1 r.2.1 r.2.2.1 r.2.2.2.1 r.2.2.2.2 (s.t+1)=some x∧Nf 1000 r (s.t+1)=some x:=by
   unfold G1 Nf;cases decide (s.t+1>0) with
   |false=>exact⟨_,rfl,rfl⟩
   |true=>
    cases decide (s.t+1<r.2.2.2.1) with
    |false=>exact⟨_,rfl,rfl⟩
    |true=>
     have:decide (r.2.2.2.2=0)=false:=ab Ma;rw[this];exact⟨_,rfl,rfl⟩
  obtain⟨x,hx,pR⟩:=hs;simp only[ae];rw[hx];have cP:List.Sublist (s.m.filter (fun p=> !vD (s.t+1) p)) s.m:=List.filter_sublist;have dz:=cP.length_le;have sY:qK (s.m.filter (fun p=> !vD (s.t+1) p)):=List.Pairwise.sublist cP hd;obtain⟨C,m',d,f1,f1',f2,f3,f4,f5,f6⟩:=yFy hb sY (by grind) (by omega) (s.t+1) s.pr s.ho s.ids s.to false x;have hlen:=f5.length_eq;rw[ay] at hlen;have hla:(s.m.filter (vD (s.t+1))).length≤s.m.length:=by grind
  have Ek:=GP d;have hr:zM (((s.m.filter (vD (s.t+1))).map (wP 21)).length+(vT d).length) 64=true:=qE (by rw[List.length_map];omega) (by rw[List.length_map];omega);simp only[ae];rw[f1];simp only[ae,hr,ai];refine⟨_,rfl,?_⟩;refine(congrArg (fun z=>Option.bind z _) c2).trans ?_;simp only[ae];refine(congrArg (fun z=>Option.bind z _) pR).trans ?_;have aa4:ow 1000 (s.t+1) s.B.1 s.B.2.1 s.B.2.2.1 s.B.2.2.2 s.pr s.ho (s.m.filter (fun p=> !vD (s.t+1) p)) s.ids s.to false x=_:=f1';refine(congrArg (fun z=>Option.bind z _) aa4).trans ?_;grind
theorem yD.settled {r s}(h:yD r s)(ho:s.ov=false){C}(hc:qR C)(kc:fZ s.B C){m}(hm:List.Sublist m s.m):yD r {s with B:=C,m:=m}:=by
  have hl:=kc.len;exact{
    tk:=h.tk
    bk:=hc
    n:=by rw[hl];exact h.n
    hol:=by rw[hl];exact h.hol
    laid:=by rw[hl];exact h.laid
    cred:=by rw[hl];intro i hi;rw[kc.cred i hi];exact h.cred i hi
    most:=by rw[hl];intro i hi;rw[kc.cred i hi];exact h.most i hi
    waits:=by rw[hl];exact h.waits.sub hm
    sum:=by rw[hl,kc.sum];exact h.sum
    tot:=h.tot
    over:=h.over
    none:=by grind}
theorem aa5 {k}(hk:1000≤k){r}(hr:wT r){s}(h:yD r s)(ho:s.ov=false):
    ∃(C:BT) (m':List zH) (ov:Bool) (o:List yI),yh k r.1 r.2.1 r.2.2.1 r.2.2.2.1 r.2.2.2.2 s.t s.B.1 s.B.2.1 s.B.2.2.1 s.B.2.2.2 s.pr s.ho s.m s.ids s.to s.ov=some (s.t+1,C.1,C.2.1,C.2.2.1,C.2.2.2,s.pr,s.ho,m',s.ids,s.to,ov,o)∧
      yD r {s with t:=s.t+1,B:=C,m:=m',ov:=ov}∧fZ s.B C∧(ov=false→fW k C (wE m' (s.t+1))=none)∧o.length≤100∧
      ((ov=true∧m'=[]∧o=s.m.map (wP 22)++iX s.B s.B.1.length∧C=s.B)∨∃l d n,o=l.map (wP 21)++vT d∧List.Perm (l++n) s.m∧List.Perm (d++m') n∧ov=false):=by
  have JA:=hr.cl;have Ma:=hr.pe;have htk:=h.tk;have hn:=h.n;have bd:s.t≠r.2.2.2.1:=by
    have:=h.over;simp_all
  have vk:=h.bk;have hm:=h.waits.len;rw[ho];obtain⟨C,m',ov,o,e1,e2,e3,e4,e5⟩:=ZW (k:=k) (by omega) vk h.waits.dist h.waits.may (by omega) r.1 r.2.1 r.2.2.1 r.2.2.2.1 r.2.2.2.2 s.t (by omega) (by omega) s.pr s.ho s.ids s.to;have hl:=e3.len;refine⟨C,m',ov,o,e1,?_,e3,e4,?_,e5⟩
  · exact{
      tk:=by grind
      bk:=e2.bk
      n:=by simp_all
      hol:=by rw[hl];exact h.hol
      laid:=by rw[hl];exact h.laid
      cred:=by rw[hl];intro i hi;rw[e3.cred i hi];exact h.cred i hi
      most:=by rw[hl];intro i hi;rw[e3.cred i hi];exact h.most i hi
      waits:=by rw[hl];exact h.waits.sub e2.sub
      sum:=by rw[hl,e3.sum];exact h.sum
      tot:=h.tot
      over:=e2.over
      none:=e2.none}
  · have:=e2.room;split at this<;>omega
theorem aa6 r s who f:(kX r s who f).2.t=s.t∧(kX r s who f).2.ov=s.ov∧(kX r s who f).2.to=s.to:=by
 unfold kX;cases decide (f.1=5) with
 |true=>
  cases !((decide (f.2.1≥0)&&decide (f.2.1≤r.1-1))&& !decide (f.2.1=who))<;>cases !(decide (f.2.2.1≥-1)&&decide (f.2.2.1≤1152921504606846976))<;>exact⟨rfl,rfl,rfl⟩
 |false=>
  cases decide (f.1=6) with
  |true=>cases !(decide (f.2.1≥-1)&&decide (f.2.1≤1152921504606846976))<;>exact⟨rfl,rfl,rfl⟩
  |false=>cases !(decide (f.2.1≥0)&&decide (f.2.1≤1152921504606846976))<;>exact⟨rfl,rfl,rfl⟩
theorem aa7 r s who a n:(kY r s who a n).2.t=s.t∧(kY r s who a n).2.ov=s.ov∧(kY r s who a n).2.to=s.to:=by
 unfold kY;cases !(decide (a≥0)&&decide (a≤(r.2.1.length:Int)-1)) with
 |true=>simp
 |false=>
 cases !(decide (n≥0)&&decide (n≤1099511627776)) with
 |true=>simp
 |false=>
 unfold G3;grind
theorem aa8 r s a p:(ld r s a p).2.t=s.t∧(ld r s a p).2.ov=s.ov∧(ld r s a p).2.to=s.to:=by
 unfold ld;cases !(decide (a≥0)&&decide (a≤(r.2.1.length:Int)-1)) with
 |true=>simp
 |false=>
 cases !(decide (p≥0)&&decide (p≤1048576)) with
 |true=>simp
 |false=>
 unfold HE;grind
theorem aa9 {r s kd to n}:(la r s kd to n).2.ov=s.ov:=by
 unfold la;cases !(decide (to≥0)&&decide (to≤r.1-1)) with
 |true=>rfl
 |false=>
 cases !(decide (n≥1)&&decide (n≤1099511627776)) with
 |true=>rfl
 |false=>
 cases decide (kd=11) with
 |true=>
  unfold Mu;cases decide ((s.B.1.getD to.toNat ad).1+(s.B.1.getD to.toNat ad).2.1-(s.B.1.getD to.toNat ad).2.2<n)<;>cases decide (s.to-n<0)<;>cases decide ((jU (s.B.1.getD to.toNat ad) (-n)).2=0)<;>cases decide (s.to-n>1152921504606846976)<;>rfl
 |false=>
  unfold Mv;cases decide ((jU (s.B.1.getD to.toNat ad) n).2=0)<;>cases decide (s.to+n>1152921504606846976)<;>rfl
theorem aba {r s who f}:(kW r s who f).2.2.length≤1:=by
 unfold kW;grind
def Kd (o:List yI):Prop:=∀x∈o,x.2.1≠16∧x.2.1≠23
theorem zq:Kd []:=fun x h=>by grind
theorem yDj {x}(h:x.2.1≠16∧x.2.1≠23):Kd [x]:=fun y hy=>by simp_all
theorem Kd.append {a b}(h:Kd a)(g:Kd b):Kd (a++b):=fun x hx=>(List.mem_append.1 hx).elim (h x) (g x)
theorem qZo:∀d:List zH,Kd (vT d)
 |[]=>zq
 | p :: d => (show Kd [fK p.2.1 p,fK p.2.2.1 p] from fun x hx=>by
   rcases List.mem_cons.1 hx with rfl|hx
   ·exact⟨by nofun,by nofun⟩
   ·rw[List.mem_singleton.1 hx];exact⟨by nofun,by nofun⟩).append (qZo d)
theorem yRg {kd}(hk:kd=21∨kd=22)(l:List zH):Kd (l.map (wP kd)):=fun x hx=>by
 obtain⟨p,_,rfl⟩:=List.mem_map.1 hx;show kd≠16∧kd≠23;omega
theorem abb {r s who f}:Kd (kW r s who f).2.2:=by
 unfold kW;cases vU s.m f.2.1 with
 |none=>exact zq
 |some x=>
  simp only[];cases !decide ((s.m.getD x pd).2.1=who) with
  |true=>exact zq
  |false=>
  cases decide (f.1=2) with
  |true=>exact yDj ⟨by nofun,by nofun⟩
  |false=>
  cases decide (f.1=4) with
  |true=>
   cases !(decide (f.2.2.1≥1)&&decide (f.2.2.1≤3))<;>cases !decide (qy r.2.2.1 r.2.2.2.1 s.t f.2.2.1=0)<;>exact zq
  |false=>
  cases decide (f.2.2.1=0)<;>cases decide (f.2.2.1=1)<;>exact zq
def oz (o:List yI):Prop:=∀x∈o,x.2.1≠16
theorem Kd.ne {o}(h:Kd o):oz o:=fun x hx=>(h x hx).1
theorem oz.append {a b}(h:oz a)(g:oz b):oz (a++b):=fun x hx=>(List.mem_append.1 hx).elim (h x) (g x)
theorem abc B n:oz (iX B n):=fun x hx=>by
 obtain⟨i,_,rfl⟩:=List.mem_map.1 hx
 nofun
theorem abd {r:qP}{s:qD}{who:Int}{f:jF}(h:(iY r s who f).1=0):∀x∈(iY r s who f).2.2,x∈s.ids∨x=f.2.1:=by
 unfold iY at h⊢;cases h1:decide (f.2.2.1≥0)&&decide (f.2.2.1≤r.1-1) with
 |false=>exact fun _ h=>.inl h
 |true=>
 cases h2:decide (f.2.2.2.2.1≥1)&&decide (f.2.2.2.2.1≤3) with
 |false=>exact fun _ h=>.inl h
 |true=>
 cases decide (ni r s.t (ga who f)=0) with
 |false=>exact fun _ h=>.inl h
 |true=>
 cases decide (f.2.1∈s.ids) with
 |true=>exact fun _ h=>.inl h
 |false=>
 cases decide (200≤s.ids.length) with
 |true=>exact fun _ h=>.inl h
 |false=>
 cases(vU s.m f.2.1).isSome with
 |true=>exact fun _ h=>.inl h
 |false=>
 cases decide (40≤s.m.length) with
 |true=>exact fun _ h=>.inl h
 |false=>
  intro x hx;have hx:x∈qq s.ids f.2.1:=hx;unfold qq at hx;have e:=List.takeWhile_append_dropWhile (p:=fun x=>decide (x<f.2.1)) (l:=s.ids);rcases List.mem_append.1 hx with hx|hx
  ·exact .inl (e▸List.mem_append_left _ hx)
  ·rcases List.mem_cons.1 hx with hx|hx
   ·exact .inr hx
   ·exact .inl (e▸List.mem_append_right _ hx)
theorem vZi (r:qP)(s:qD)(who:Int)(f:jF):(kX r s who f).2.ids=s.ids:=by
 unfold kX;cases decide (f.1=5) with
 |true=>cases !((decide (f.2.1≥0)&&decide (f.2.1≤r.1-1))&& !decide (f.2.1=who))<;>cases !(decide (f.2.2.1≥-1)&&decide (f.2.2.1≤1152921504606846976))<;>rfl
 |false=>
  cases decide (f.1=6) with
  |true=>cases !(decide (f.2.1≥-1)&&decide (f.2.1≤1152921504606846976))<;>rfl
  |false=>cases !(decide (f.2.1≥0)&&decide (f.2.1≤1152921504606846976))<;>rfl
theorem abe (r:qP)(s:qD)(who a n:Int):(kY r s who a n).2.ids=s.ids:=by
 unfold kY;cases !(decide (a≥0)&&decide (a≤(r.2.1.length:Int)-1)) with
 |true=>rfl
 |false=>
 cases !(decide (n≥0)&&decide (n≤1099511627776)) with
 |true=>rfl
 |false=>
 simp only[ak];unfold G3;generalize (s.ho.getD who.toNat []).set a.toNat n=h;cases decide (gG r.2.1 s.pr h>1152921504606846976) with
 |true=>rfl
 |false=>cases decide (gG r.2.1 s.pr h<(s.B.1.getD who.toNat ad).2.1)&&decide ((s.B.1.getD who.toNat ad).1+gG r.2.1 s.pr h<0)<;>rfl
theorem abf (r:qP)(s:qD)(a p:Int):(ld r s a p).2.ids=s.ids:=by
 unfold ld;cases !(decide (a≥0)&&decide (a≤(r.2.1.length:Int)-1)) with
 |true=>rfl
 |false=>
 cases !(decide (p≥0)&&decide (p≤1048576)) with
 |true=>rfl
 |false=>
 simp only[ak];unfold HE;cases zZ (fun j=> !decide (gK r.2.1 (s.pr.set a.toNat p) s.ho j>1152921504606846976)) s.B.1.length 0<;>rfl
def fld (m:jF)(i:Nat):Int:=[m.2.1,m.2.2.1,m.2.2.2.1,m.2.2.2.2.1,m.2.2.2.2.2.1,m.2.2.2.2.2.2].getD i 0
theorem vTo (x:Int)(m:jF){n:Nat}(hn:n≤6):zr 1000 1000 x n m=some (bif zZ (fun j=>decide (fld m j=0)) (6-n) n then .inl x else .inr false):=
 XO (L := fun n i => zr 1000 n x i m) (N := 6) (fun j => decide (fld m j = 0)) (.inl x) (.inr false) (fun n => rfl) (fun n i hi=>by
  show yDw 1000 (zr 1000 n) x i m=_;have:i=0∨i=1∨i=2∨i=3∨i=4∨i=5:=by omega
  rcases this with rfl|rfl|rfl|rfl|rfl|rfl
  ·show(bif !(decide (m.2.1=0)) then _ else _)=bif decide (m.2.1=0) then _ else _
   cases decide (m.2.1=0)<;>rfl
  ·show(bif !(decide (m.2.2.1=0)) then _ else _)=bif decide (m.2.2.1=0) then _ else _
   cases decide (m.2.2.1=0)<;>rfl
  ·show(bif !(decide (m.2.2.2.1=0)) then _ else _)=bif decide (m.2.2.2.1=0) then _ else _
   cases decide (m.2.2.2.1=0)<;>rfl
  ·show(bif !(decide (m.2.2.2.2.1=0)) then _ else _)=bif decide (m.2.2.2.2.1=0) then _ else _
   cases decide (m.2.2.2.2.1=0)<;>rfl
  ·show(bif !(decide (m.2.2.2.2.2.1=0)) then _ else _)=bif decide (m.2.2.2.2.2.1=0) then _ else _
   cases decide (m.2.2.2.2.2.1=0)<;>rfl
  ·show(bif !(decide (m.2.2.2.2.2.2=0)) then _ else _)=bif decide (m.2.2.2.2.2.2=0) then _ else _
   cases decide (m.2.2.2.2.2.2=0)<;>rfl) (6-n) n 1000 (by omega) (by omega)
theorem my (m:jF)(n:Nat)(hn:n≤6)(h1:uA 1000 m.1=some (n:Int))(h2:BM 1000 m.1=some (n:Int)):tm 1000 m=kZ 1000 m:=by
 unfold tm kZ;rw[h1,h2];have e1:yC false (n:Int) 0=(n:Int):=by
  rfl
 simp only[ae];rw[e1,vTo _ m hn,ab (by simp),aa (by simp),aa (by grind),ao];have hl:(qM [m.2.1,m.2.2.1,m.2.2.2.1,m.2.2.2.2.1,m.2.2.2.2.2.1,m.2.2.2.2.2.2] n (6-n)).length=6-n:=by
  unfold qM;simp
 have := fk (L := fun k i => mw 1000 k (qM [m.2.1, m.2.2.1, m.2.2.2.1, m.2.2.2.2.1, m.2.2.2.2.2.1, m.2.2.2.2.2.2] n (6 - n)) ((6 - n : Nat) : Int) i) (N := 6 - n) (fun j => decide ((qM [m.2.1, m.2.2.1, m.2.2.2.1, m.2.2.2.2.1, m.2.2.2.2.2.1, m.2.2.2.2.2.2] n (6 - n)).getD j 0 = 0)) (.inl ()) (.inr false) (fun k=>by
  show lE 1000 (mw 1000 k) _ _ _=_;unfold lE;simp) (fun k i hi=>by
  show lE 1000 (mw 1000 k) _ _ _=_;unfold lE;rw[aa (by grind),zY,hl,aa hi,ao,qB hi (by omega)];simp) (n:=1000) (by omega)
 have h':mw 1000 1000 (qM [m.2.1,m.2.2.1,m.2.2.2.1,m.2.2.2.2.1,m.2.2.2.2.2.1,m.2.2.2.2.2.2] n (6-n)) ((6-n:Nat):Int) 0=_:=this;have ea:zZ (fun j=>decide (fld m j=0)) (6-n) n=zZ (fun j=>decide ((qM [m.2.1,m.2.2.1,m.2.2.2.1,m.2.2.2.2.1,m.2.2.2.2.2.1,m.2.2.2.2.2.2] n (6-n)).getD j 0=0)) (6-n) 0:=by
  have:n=0∨n=1∨n=2∨n=3∨n=4∨n=5∨n=6:=by omega
  rcases this with rfl|rfl|rfl|rfl|rfl|rfl|rfl<;>rfl
 grind
theorem abg (kd a b c d e f:Int)(h:1≤kd∧kd≤14):tm 1000 (kd,a,b,c,d,e,f)=kZ 1000 (kd,a,b,c,d,e,f):=by
 have:kd=1∨kd=2∨kd=3∨kd=4∨kd=5∨kd=6∨kd=7∨kd=8∨kd=9∨kd=10∨kd=11∨kd=12∨kd=13∨kd=14:=by omega
 rcases this with rfl|rfl|rfl|rfl|rfl|rfl|rfl|rfl|rfl|rfl|rfl|rfl|rfl|rfl
 ·exact my _ 6 (by decide) rfl rfl
 ·exact my _ 1 (by decide) rfl rfl
 ·exact my _ 2 (by decide) rfl rfl
 ·exact my _ 2 (by decide) rfl rfl
 ·exact my _ 2 (by decide) rfl rfl
 ·exact my _ 1 (by decide) rfl rfl
 ·exact my _ 1 (by decide) rfl rfl
 ·exact my _ 2 (by decide) rfl rfl
 ·exact my _ 0 (by decide) rfl rfl
 ·exact my _ 2 (by decide) rfl rfl
 ·exact my _ 2 (by decide) rfl rfl
 ·exact my _ 2 (by decide) rfl rfl
 ·exact my _ 0 (by decide) rfl rfl
 ·exact my _ 0 (by decide) rfl rfl
theorem vKu (r:qP)(s:qD)(c:om){X:Type}(bad:Int→X)(Q:X):∃e,yk 1000 r s.st c=some e∧
  (e=0→((10≤c.2.1∧c.2.1≤14∧c.1= -1)∨(1≤c.2.1∧c.2.1≤9∧0≤c.1∧c.1<r.1))∧(s.ov=true→c.2.1=9))∧
  ((CX 1000 r c).bind fun x0=>some (bif !x0 then bad 5 else bif s.ov then(bif !(decide (c.2.1=9)) then bad 7 else Q) else Q))=some (bif decide (e=0) then Q else bad e):=by
 obtain⟨e,he,hm⟩:=vL1 (k:=1000) (by decide) r s c;refine⟨e,he,hm,?_⟩;have hA:RN 1000 c.2.1=some (decide (c.2.1≥1)&&decide (c.2.1≤14)):=by
  unfold RN;cases decide (c.2.1≥1)<;>rfl
 have hH:RO 1000 c.2.1=some (decide (c.2.1≥10)&&decide (c.2.1≤14)):=by
  unfold RO;cases decide (c.2.1≥10)<;>rfl
 by_cases hk:1≤c.2.1∧c.2.1≤14
 ·obtain⟨b,hb⟩:=QX (k:=1000) (by decide) c.2;have bg:tm 1000 c.2=some b:=(abg _ _ _ _ _ _ _ hk).trans hb;have eo:s.st.2.2.2.2.2.2.2.2.2.2=s.ov:=rfl;unfold yk at he;rw[Z5,Z6,hb,eo] at he;simp only[ae] at he;unfold CX;rw[hA,hH,bg];simp only[ae];clear hm hA hH hb bg;generalize decide (c.1≥0)=A at he⊢;generalize decide (c.2.1≥10)=B at he⊢;generalize decide (c.2.1≤14)=C at he⊢;generalize decide (c.2.1≥1)=D at he⊢;generalize decide (c.1= -1)=E at he⊢;generalize decide (c.1<r.1)=F at he⊢;generalize decide (c.2.1=9)=G at he⊢;generalize s.ov=o at he⊢;cases A<;>cases B<;>cases C<;>cases D<;>cases E<;>cases F<;>cases G<;>cases b<;>cases o<;>(cases he;rfl)
 ·have g:(decide (c.2.1≥1)&&decide (c.2.1≤14))=false:=by
   by_cases a:c.2.1≥1
   ·rw[aa a,ab (fun b=>hk ⟨a,b⟩)];rfl
   ·rw[ab a];rfl
  have e5:e=5:=by
   unfold yk at he;rw[Z5,Z6,g] at he;simp only[ae] at he;cases hd:decide (c.1≥0)<;>rw[hd] at he<;>(cases he;rfl)
  subst e5;unfold CX;rw[hA,g];rfl
structure Dlt (r:qP) (s:qD) (f:jF) (t:qD) (l:List yI):Prop where
 inv:yD r t
 ov:t.ov=s.ov
 few:l.length≤2
 kd:Kd l
 ids:∀x∈t.ids,x∈s.ids∨x=f.2.1
structure CY (r:qP) (s:qD) (f:jF) (t:qD) (o:List yI) (e:Int):Prop where
 inv:yD r t
 bad:e≠0→t=s∧o=[]
 ne:oz o
 few:o.length≤200
 ids:∀x∈t.ids,x∈s.ids∨x=f.2.1
theorem CY.none {r:qP}{s:qD}{f:jF}(h:yD r s)(e:Int):CY r s f s [] e:=⟨h,fun _=>⟨rfl,rfl⟩,fun x hx=>absurd hx List.not_mem_nil,Nat.zero_le _,fun _ h=>.inl h⟩
theorem kn (who a:Int)(kd:Int)(h:kd≠16∧kd≠23):Kd [nj who kd a]:=yDj h
structure IC (r:qP) (s:qD) (who:Int) (f:jF) (t:qD) (l l':List yI) (paid:Int):Prop where
 dealt:Dlt r s f t l
 told:l=(if who= -1 then l' else nj who 15 0::l')
 paid:paid=if f.1=1 then f.2.1 else 0
 pos:f.1=1→0<f.2.1
theorem vUo {r:qP}{s:qD}{who:Int}{f:jF}(h:(iY r s who f).1=0):0<f.2.1:=by
 unfold iY at h;cases h1:decide (f.2.2.1≥0)&&decide (f.2.2.1≤r.1-1) with
 |false=>rw[h1] at h;cases h
 |true=>
 cases h2:decide (f.2.2.2.2.1≥1)&&decide (f.2.2.2.2.1≤3) with
 |false=>rw[h1,h2] at h;cases h
 |true=>
 rw[h1,h2] at h;simp only[az,ak] at h;by_cases hc:ni r s.t (ga who f)=0
 ·unfold ni at hc;cases hb:kV r.1 s.t (ga who f) with
  |false=>rw[hb] at hc;cases hc
  |true=>
   unfold kV at hb;simp only[aR,aZ] at hb;have:(ga who f).1≥1:=hb.2.2.1;have e:(ga who f).1=f.2.1:=rfl;omega
 ·rw[ab hc] at h;exact absurd h hc
theorem vU7 {r:qP}(hr:wT r){s:qD}(h:yD r s)(ho:s.ov=false){who:Int}(hw:0≤who∧who<r.1){f:jF}(hf:1≤f.1∧f.1≤8):
  ∃e d d',RP 1000 (dk r s who [nj who 15 0]) f=some (e,d)∧zt 1000 (rk r s who) f=some (e,d')∧(e=0→∃t l l' paid,d=dk r t who l∧d'=qL r t who l' paid∧IC r s who f t l l' paid):=by
 unfold RP zt;have su:¬who= -1:=by omega
 have kn:=kn who 0 15 (by decide);by_cases h1:f.1=1
 ·rw[aa h1];obtain⟨d,e1,e2⟩:=vN9 (k:=1000) (by decide) hr h.waits who [nj who 15 0] f;obtain⟨d',q1,q2⟩:=aaU (k:=1000) (by decide) hr h.waits who f;simp only[ai];rw[e1,q1];exact⟨_,d,d',rfl,rfl,fun e=>⟨_,_,_,_,e2 e,q2 e,⟨h.queue ho (vT4 hr h e),rfl,by simp,kn,abd e⟩,(if_neg su).symm,(if_pos h1).symm,fun _=>vUo e⟩⟩
 rw[ab h1];by_cases hq:f.1=2∨f.1=3∨f.1=4
 ·obtain⟨d,e1,e2⟩:=vTd (k:=1000) (by decide) h.waits who (l:=[nj who 15 0]) (by simp) f;obtain⟨d',q1,q2⟩:=vKm (k:=1000) (by decide) (r:=r) h.waits who f hq;have g:∃e d d',(Ck 1000 (dk r s who [nj who 15 0]) f).bind (fun x=>some (x.1,x.2))=some (e,d)∧(CR 1000 (rk r s who) f.1 f.2).bind (fun x=>some (x.1,x.2))=some (e,d')∧(e=0→∃t l l' paid,d=dk r t who l∧d'=qL r t who l' paid∧IC r s who f t l l' paid):=by
   rw[e1,q1];refine⟨_,d,d',rfl,rfl,fun e=>⟨_,_,_,_,e2 e,q2 e,⟨h.queue ho (vPe h e),rfl,?_,kn.append abb,fun _ h=>.inl h⟩,?_,(if_neg h1).symm,fun e'=>absurd e' h1⟩⟩
   ·have:=aba (r:=r) (s:=s) (who:=who) (f:=f);rw[ay];simp;omega
   ·rw[if_neg su];rfl
  rcases hq with e|e|e
  ·rw[aa e];exact g
  ·rw[ab (show¬f.1=2 by omega),aa e];exact g
  ·rw[ab (show¬f.1=2 by omega),ab (show¬f.1=3 by omega),aa e];exact g
 rw[ab (show¬f.1=2 by omega),ab (show¬f.1=3 by omega),ab (show¬f.1=4 by omega)];by_cases hq:f.1=5∨f.1=6∨f.1=7
 ·obtain⟨d,e1,e2⟩:=vKk (k:=1000) (by decide) hr h.bk h.n hw [nj who 15 0] f;obtain⟨d',q1,q2⟩:=aaV (k:=1000) (by decide) hr h.bk h.n hw f;have g:∃e d d',(Cl 1000 (dk r s who [nj who 15 0]) f).bind (fun x=>some (x.1,x.2))=some (e,d)∧(CT 1000 (rk r s who) f.1 f.2).bind (fun x=>some (x.1,x.2))=some (e,d')∧(e=0→∃t l l' paid,d=dk r t who l∧d'=qL r t who l' paid∧IC r s who f t l l' paid):=by
   rw[e1,q1];have cc:=aa6 r s who f;exact⟨_,d,d',rfl,rfl,fun e=>⟨_,_,_,_,e2 e,q2 e,⟨vKh h hw e,cc.2.1,by simp,kn,by rw[vZi];exact fun _ h=>.inl h⟩,(if_neg su).symm,(if_neg h1).symm,fun e'=>absurd e' h1⟩⟩
  rcases hq with e|e|e
  ·rw[aa e];exact g
  ·rw[ab (show¬f.1=5 by omega),aa e];exact g
  ·rw[ab (show¬f.1=5 by omega),ab (show¬f.1=6 by omega),aa e];exact g
 rw[ab (show¬f.1=5 by omega),ab (show¬f.1=6 by omega),ab (show¬f.1=7 by omega),aa (show f.1=8 by omega)];obtain⟨d,e1,e2⟩:=vPq (k:=1000) (by decide) hr h hw [nj who 15 0] f.2.1 f.2.2.1;obtain⟨d',q1,q2⟩:=vLu hr h hw f.2.1 f.2.2.1;simp only[ai,ak];rw[e1,q1];have cc:=aa7 r s who f.2.1 f.2.2.1;exact⟨_,d,d',rfl,rfl,fun e=>⟨_,_,_,_,e2 e,q2 e,⟨aas hr h hw e,cc.2.1,by simp,kn,by rw[abe];exact fun _ h=>.inl h⟩,(if_neg su).symm,(if_neg h1).symm,fun e'=>absurd e' h1⟩⟩
theorem vR9 {r:qP}(hr:wT r){s:qD}(h:yD r s){f:jF}(hf:10≤f.1∧f.1≤13):
  ∃e d d',ID 1000 (gJ r s (-1)) f=some (e,d)∧zt 1000 (rk r s (-1)) f=some (e,d')∧(e=0→∃t l l' paid,d=dk r t (-1) l∧d'=qL r t (-1) l' paid∧IC r s (-1) f t l l' paid):=by
 unfold ID zt;have h1:¬f.1=1:=by omega
 rw[ab h1,ab (show¬f.1=2 by omega),ab (show¬f.1=3 by omega),ab (show¬f.1=4 by omega),ab (show¬f.1=5 by omega),ab (show¬f.1=6 by omega),ab (show¬f.1=7 by omega),ab (show¬f.1=8 by omega)];by_cases hq:f.1=10∨f.1=11
 ·obtain⟨d,e1,e2⟩:=vZ2 (k:=1000) (by decide) hr h (-1) f.1 f.2.1 f.2.2.1;obtain⟨d',q1,q2⟩:=aaW hr h (-1) f.1 f.2.1 f.2.2.1 hq;have g:∃e d d',(HA 1000 (gJ r s (-1)) f.1 f.2.1 f.2.2.1).bind (fun x=>some (x.1,x.2))=some (e,d)∧(Ig 1000 (rk r s (-1)) (decide (f.1=10)) f.2.1 f.2.2.1).bind (fun x=>some (x.1,x.2))=some (e,d')∧(e=0→∃t l l' paid,d=dk r t (-1) l∧d'=qL r t (-1) l' paid∧IC r s (-1) f t l l' paid):=by
   rw[e1,q1];refine⟨_,d,d',rfl,rfl,fun e=>?_⟩;obtain⟨g1,g2,g3,g4,g5⟩:=vKy h e;exact⟨_,_,_,_,e2 e,q2 e,⟨g1,aa9,by simp,zq,by rw[g4];exact fun _ h=>.inl h⟩,rfl,(if_neg h1).symm,fun e'=>absurd e' h1⟩
  rcases hq with e|e
  ·have e1:decide (f.1=10)=true:=aa e;rw[e1] at g⊢;exact g
  ·have e1:decide (f.1=10)=false:=ab (by omega);rw[e1] at g⊢;rw[aa e];exact g
 rw[ab (show¬f.1=10 by omega),ab (show¬f.1=11 by omega)];by_cases hp:f.1=12
 ·rw[aa hp];obtain⟨d,e1,e2⟩:=aan (k:=1000) (by decide) hr h (-1) f.2.1 f.2.2.1;obtain⟨d',q1,q2⟩:=vPi hr h (-1) f.2.1 f.2.2.1;simp only[ai,ak];rw[e1,q1];have cc:=aa8 r s f.2.1 f.2.2.1;exact⟨_,d,d',rfl,rfl,fun e=>⟨_,_,_,_,e2 e,q2 e,⟨vZ3 h e,cc.2.1,by simp,zq,by rw[abf];exact fun _ h=>.inl h⟩,rfl,(if_neg h1).symm,fun e'=>absurd e' h1⟩⟩
 ·rw[ab hp];exact⟨_,_,_,rfl,rfl,fun _=>⟨s,[],[],0,rfl,rfl,⟨h,rfl,by simp,zq,fun _ h=>.inl h⟩,rfl,(if_neg h1).symm,fun e'=>absurd e' h1⟩⟩
def RQ (who kd:Int)(x4:Int×MOT):Option (sZ×List yI×Int):=
  bif !(decide (who = (-1))) then ((eZ 1000 15 []).bind fun x5=>
   (ow 1000 x4.2.2.2.2.2.2.1 x4.2.2.2.2.2.2.2.1 x4.2.2.2.2.2.2.2.2.1 x4.2.2.2.2.2.2.2.2.2.1 x4.2.2.2.2.2.2.2.2.2.2.1 x4.2.2.2.2.2.2.2.2.2.2.2.1 x4.2.2.2.2.2.2.2.2.2.2.2.2.1 x4.2.2.2.2.2.2.2.2.2.2.2.2.2.1 x4.2.2.2.2.2.2.2.2.2.2.2.2.2.2.1 x4.2.2.2.2.2.2.2.2.2.2.2.2.2.2.2.1 x4.2.2.2.2.2.2.2.2.2.2.2.2.2.2.2.2.1 (decide (kd=13))).bind fun x6=>
   bif zM (1 + x4.2.2.2.2.2.2.2.2.2.2.2.2.2.2.2.2.2.2.1.length) 64 then (let y0:List yI:=([(who,x5)]++x4.2.2.2.2.2.2.2.2.2.2.2.2.2.2.2.2.2.2.1)
    bif zM (y0.length + x6.2.2.2.2.2.2.2.2.2.2.2.length) 64 then (bif decide (x4.2.2.2.2.2.2.2.2.2.2.2.2.2.2.2.2.2.2.2 > 0) then ((mq 1000 x6.2.2.2.2.2.2.2.1 x4.2.2.2.2.2.2.2.2.2.2.2.2.2.2.2.2.2.2.2).bind fun x7=>
      bif decide (x7 ≥ 0) then ((eZ 1000 19 [x4.2.2.2.2.2.2.2.2.2.2.2.2.2.2.2.2.2.2.2]).bind fun x8=>
       bif zM ((y0 ++ x6.2.2.2.2.2.2.2.2.2.2.2).length + 1) 64 then (let y1:List yI:=((y0++x6.2.2.2.2.2.2.2.2.2.2.2)++[(who,x8)])
        some ((qO x6),y1,0))
       else none)
      else some ((qO x6),(y0++x6.2.2.2.2.2.2.2.2.2.2.2),0))
     else some ((qO x6),(y0++x6.2.2.2.2.2.2.2.2.2.2.2),0))
    else none)
   else none)
  else(ow 1000 x4.2.2.2.2.2.2.1 x4.2.2.2.2.2.2.2.1 x4.2.2.2.2.2.2.2.2.1 x4.2.2.2.2.2.2.2.2.2.1 x4.2.2.2.2.2.2.2.2.2.2.1 x4.2.2.2.2.2.2.2.2.2.2.2.1 x4.2.2.2.2.2.2.2.2.2.2.2.2.1 x4.2.2.2.2.2.2.2.2.2.2.2.2.2.1 x4.2.2.2.2.2.2.2.2.2.2.2.2.2.2.1 x4.2.2.2.2.2.2.2.2.2.2.2.2.2.2.2.1 x4.2.2.2.2.2.2.2.2.2.2.2.2.2.2.2.2.1 (decide (kd=13))).bind fun x9=>
  bif zM x4.2.2.2.2.2.2.2.2.2.2.2.2.2.2.2.2.2.2.1.length 64 then (let y2:List yI:=x4.2.2.2.2.2.2.2.2.2.2.2.2.2.2.2.2.2.2.1
   bif zM (y2.length + x9.2.2.2.2.2.2.2.2.2.2.2.length) 64 then (bif decide (x4.2.2.2.2.2.2.2.2.2.2.2.2.2.2.2.2.2.2.2 > 0) then ((mq 1000 x9.2.2.2.2.2.2.2.1 x4.2.2.2.2.2.2.2.2.2.2.2.2.2.2.2.2.2.2.2).bind fun bC=>
     bif decide (bC ≥ 0) then ((eZ 1000 19 [x4.2.2.2.2.2.2.2.2.2.2.2.2.2.2.2.2.2.2.2]).bind fun dr=>
      bif zM ((y2 ++ x9.2.2.2.2.2.2.2.2.2.2.2).length + 1) 64 then (let y3:List yI:=((y2++x9.2.2.2.2.2.2.2.2.2.2.2)++[(who,dr)])
       some ((qO x9),y3,0))
      else none)
     else some ((qO x9),(y2++x9.2.2.2.2.2.2.2.2.2.2.2),0))
    else some ((qO x9),(y2++x9.2.2.2.2.2.2.2.2.2.2.2),0))
   else none)
  else none
def CZ (r:qP)(s:sZ)(c:om):Option (sZ×List yI×Int):=
  bif decide (c.2.1 = 9) then (bif zB c.1 s.2.1.length then ((uI 1000 s.2.2.2.2.2.2.2.1 c.1).bind fun x1=>
    (eZ 1000 17 [(s.2.1.getD c.1.toNat (0,0,0)).1,(s.2.1.getD c.1.toNat (0,0,0)).2.1,(s.2.1.getD c.1.toNat (0,0,0)).2.2,(x1.length:Int),s.1]).bind fun x2=>
    some (s,[(c.1,x2)],0))
   else none)
  else bif decide (c.2.1 = 14) then ((IB 1000 r s).bind fun x3=>
   some (x3.1,x3.2,0))
  else(zt 1000 (vK r (vP s (c.1,0))) c.2).bind fun x4=>
  bif !(decide (x4.1=0)) then some (s,[],x4.1)
  else RQ c.1 c.2.1 x4
theorem abh (r:qP)(s:sZ)(c:om):IE 1000 r s c=(CX 1000 r c).bind fun x0=>
  bif !x0 then some (s,[],5) else bif s.2.2.2.2.2.2.2.2.2.2 then(bif !(decide (c.2.1=9)) then some (s,[],7) else CZ r s c) else CZ r s c:=rfl
theorem yF8 {r:qP}(hr:wT r){s t:qD}(ho:s.ov=false){who:Int}{l l':List yI}{f:jF}{paid:Int}(hB:IC r s who f t l l' paid):
    ∃ u o, ((uR 1000 t.t t.B.1 t.B.2.1 t.B.2.2.1 t.B.2.2.2 t.pr t.ho t.m t.ids t.to t.ov (decide (f.1=13))).bind fun x5=>
      bif zM (l.length + x5.2.2.2.2.2.2.2.2.2.2.2.length) 64 then (let y0:List yI:=(l++x5.2.2.2.2.2.2.2.2.2.2.2)
       bif decide (f.1 = 1) then ((pt 1000 x5.2.2.2.2.2.2.2.1 f.2.1).bind fun x6=>
        bif decide (x6 ≥ 0) then ((yj 1000 (RR ((0:Int),dk r t who l) y0) 19 [f.2.1]).bind fun x7=>
         some ((qO x5),x7.2.2.2.2.2.2.2.2.2.2.2.2.2.2.2.2.2,(0:Int)))
        else some ((qO x5),y0,0))
       else some ((qO x5),y0,0))
      else none)=some (u.st,o,(0:Int))∧RQ who f.1 (0,qL r t who l' paid)=some (u.st,o,(0:Int))∧yD r u∧oz o∧o.length≤200∧u.ids=t.ids:=by
  have h:=hB.dealt.inv;have vl:=hB.dealt.ov.trans ho;have hl:=hB.dealt.few;have hm:=h.waits.len;obtain⟨C,m',d,e1,M6,e3,e4,e5,e6,e7⟩:=yFy h.bk h.waits.dist h.waits.may (by omega) t.t t.pr t.ho t.ids t.to t.ov (decide (f.1=13));have hd:d.length≤40:=by
    have:=e6.length_eq;rw[ay] at this;omega
  have pc:=e5.length_le;have Ek:=GP d;have hu:=h.settled vl e3 e4 e5;have dO:l'.length≤2:=by
    have:=hB.told;by_cases hw:who= -1
    · rw[if_pos hw] at this;rw[←this];exact hl
    · rw[if_neg hw] at this;rw[this,List.length_cons] at hl;omega
  have key:RQ who f.1 (0,qL r t who l' paid)=bif decide (paid>0) then(bif decide (fm m' paid≥0) then some ((t.t,C.1,C.2.1,C.2.2.1,C.2.2.2,t.pr,t.ho,m',t.ids,t.to,t.ov),(l++vT d)++[nj who 19 paid],(0:Int)) else some ((t.t,C.1,C.2.1,C.2.2.1,C.2.2.2,t.pr,t.ho,m',t.ids,t.to,t.ov),l++vT d,0)) else some ((t.t,C.1,C.2.1,C.2.2.1,C.2.2.2,t.pr,t.ho,m',t.ids,t.to,t.ov),l++vT d,0):=by
    have es:ow 1000 (qL r t who l' paid).2.2.2.2.2.1 (qL r t who l' paid).2.2.2.2.2.2.1 (qL r t who l' paid).2.2.2.2.2.2.2.1 (qL r t who l' paid).2.2.2.2.2.2.2.2.1 (qL r t who l' paid).2.2.2.2.2.2.2.2.2.1 (qL r t who l' paid).2.2.2.2.2.2.2.2.2.2.1 (qL r t who l' paid).2.2.2.2.2.2.2.2.2.2.2.1 (qL r t who l' paid).2.2.2.2.2.2.2.2.2.2.2.2.1 (qL r t who l' paid).2.2.2.2.2.2.2.2.2.2.2.2.2.1 (qL r t who l' paid).2.2.2.2.2.2.2.2.2.2.2.2.2.2.1 (qL r t who l' paid).2.2.2.2.2.2.2.2.2.2.2.2.2.2.2.1 (decide (f.1=13))=_:=M6;have eo:(qL r t who l' paid).2.2.2.2.2.2.2.2.2.2.2.2.2.2.2.2.2.1=l':=rfl;have ep:(qL r t who l' paid).2.2.2.2.2.2.2.2.2.2.2.2.2.2.2.2.2.2=paid:=rfl;have ef:mq 1000 m' paid=some (fm m' paid):=Lx (by omega) (by omega) paid;unfold RQ;simp only[es,eo,ep,Of0,CW,ae];have ht:=hB.told;by_cases hw:who= -1
    · rw[if_pos hw] at ht;rw[aa hw,qE (n:=l'.length) (by omega) (by omega),qE (n:=l'.length+(vT d).length) (by omega) (by omega),qE (n:=(l'++vT d).length+1) (by rw[ay];omega) (by rw[ay];omega),ht];simp only[az,ak,ai];rw[ef];rfl
    · rw[if_neg hw] at ht;have er:[((who,(15,0,0,0,0,0,0)):yI)]++l'=l:=ht.symm;rw[ab hw,er,qE (n:=1+l'.length) (by omega) (by omega),qE (n:=l.length+(vT d).length) (by omega) (by omega),qE (n:=(l++vT d).length+1) (by rw[ay];omega) (by rw[ay];omega)];simp only[bO,ai];rw[ef];rfl
  rw[e1,key];simp only[ae];rw[qE (n:=l.length+(vT d).length) (by omega) (by omega)];simp only[ai];have fin:∀(o:List yI) {x:Option (sZ×List yI×Int)},o.length≤200→oz o→x=some (({t with B:=C,m:=m'}:qD).st,o,(0:Int))→∃u o',some (({t with B:=C,m:=m'}:qD).st,o,(0:Int))=some (u.st,o',(0:Int))∧x=some (u.st,o',(0:Int))∧yD r u∧oz o'∧o'.length≤200∧u.ids=t.ids:=fun o _ hl hk hx=>⟨{t with B:=C,m:=m'},o,rfl,hx,hu,hk,hl,rfl⟩
  have k1:Kd (l++vT d):=hB.dealt.kd.append (qZo _);have b1:(l++vT d).length≤199:=by rw[ay];omega
  have b2:∀x:yI,(l++vT d++[x]).length≤200:=fun x=>by rw[ay];simp;rw[ay] at b1;omega
  have hp:=hB.paid;by_cases h1:f.1=1
  · rw[if_pos h1] at hp;subst hp;rw[aa h1,aa (show f.2.1>0 from hB.pos h1)];simp only[ai];rw[F5 (by omega) (by omega)];simp only[ae];cases decide (fm m' f.2.1≥0) with
    |false=>exact fin _ (by omega) k1.ne rfl
    |true=>
      simp only[ai];have ej:RR ((0:Int),dk r t who l) (l++vT d)=dk r t who (l++vT d):=rfl;rw[ej,yQ3 (by rw[ay];omega)];exact fin _ (b2 _) (k1.append (kn _ _ _ (by decide))).ne rfl
  · rw[if_neg h1] at hp;subst hp;rw[ab h1,ab (show¬(0:Int)>0 by decide)];exact fin _ (by omega) k1.ne rfl
theorem abi {r:qP}{s:qD}(h:yD r s){who:Int}(hw:0≤who∧who<r.1)(c:om)(hc:c.1=who)(h9:c.2.1=9):
  ∃o,RT 1000 s.st who=some o∧CZ r s.st c=some (s.st,o,0)∧o.length≤200∧oz o:=by
 have hm:=h.waits.len;have hn:=h.n;have hb:zB who s.B.1.length=true:=wU hw.1 (by omega);have e1:s.st.2.1=s.B.1:=rfl;have e2:s.st.2.2.2.2.2.2.2.1=s.m:=rfl;unfold RT CZ;rw[aa h9,hc,e1,e2,hb,yJh (by omega) (by unfold qT;omega),Qj (by omega) (by unfold qT;omega)];simp only[ai,ae,Of5];exact⟨_,rfl,rfl,by simp,(yDj ⟨by simp,by simp⟩).ne⟩
theorem yLg {r:qP}(hr:wT r){s:qD}(h:yD r s)(c:om):
  ∃t o e,IF 1000 r s.st c=some (t.st,o,e)∧IE 1000 r s.st c=some (t.st,o,e)∧CY r s c.2 t o e:=by
 obtain⟨e,he,hm,hb⟩:=vKu r s c (fun e=>(some (s.st,[],e):Option (sZ×List yI×Int))) (CZ r s.st c);have hR:IE 1000 r s.st c=bif decide (e=0) then CZ r s.st c else some (s.st,[],e):=by
  rw[abh];have eo:s.st.2.2.2.2.2.2.2.2.2.2=s.ov:=rfl;rw[eo];cases hx:CX 1000 r c with
  |none=>rw[hx] at hb;cases hb
  |some x=>
   rw[hx] at hb;simp only[ae,Option.some.injEq] at hb;exact hb
 unfold IF;rw[he,hR];simp only[ae];by_cases h0:e=0
 ·obtain⟨hw,vl⟩:=hm h0;rw[aa h0];simp only[az,ak,ai];by_cases h9:c.2.1=9
  ·have xq:0≤c.1∧c.1<r.1:=by omega
   obtain⟨o,ho,lQ,hol,fR⟩:=abi h xq c rfl h9;rw[aa h9,lQ];simp only[ai];rw[ho];exact⟨s,o,0,rfl,rfl,h,fun e=>absurd rfl e,fR,hol,fun _ h=>.inl h⟩
  ·have ho:s.ov=false:=by
    cases g:s.ov with
    |false=>rfl
    |true=>exact absurd (vl g) h9
   have fin:∀{t:qD} {x y:Option (sZ×List yI×Int)},(∀x∈t.ids,x∈s.ids∨x=c.2.2.1)→(∃u o,x=some (u.st,o,(0:Int))∧y=some (u.st,o,(0:Int))∧yD r u∧oz o∧o.length≤200∧u.ids=t.ids)→∃t o e,x=some (t.st,o,e)∧y=some (t.st,o,e)∧CY r s c.2 t o e:=by
    intro t x y hi ⟨u,o,g1,B7,g2,g3,g4,g5⟩;exact⟨u,o,0,g1,B7,g2,fun e=>absurd rfl e,g3,g4,by rw[g5];exact hi⟩
   unfold CZ;rw[ab h9];simp only[ak];by_cases hp:c.1= -1
   ·rw[aa hp];have hf:10≤c.2.1∧c.2.1≤14:=by omega
    have ed:vK r (vP s.st c.1)=gJ r s (-1):=by rw[hp];rfl
    have er:vK r (vP s.st (c.1,0))=rk r s (-1):=by rw[hp];rfl
    simp only[az,ak];rw[ed,er];by_cases h14:c.2.1=14
    ·have g0:ID 1000 (gJ r s (-1)) c.2=some (0,dk r s (-1) []):=by
      unfold ID;rw[h14];rfl
     rw[g0];simp only[ae];rw[aa h14];have bd:=h.tk;have JA:=hr.cl;have Ma:=hr.pe;obtain⟨x,x1,x2⟩:=vWq r h.bk h.waits.dist h.waits.may (by have:=h.waits.len;omega) ⟨by omega,by omega⟩ (by omega) ho;obtain⟨C,m',ov,o,y1,y2,_,_,y3,y4⟩:=aa5 (k:=1000) (by decide) hr h ho;rw[x1] at y1;have y1:=Option.some.inj y1;subst y1;refine⟨_,o,0,(congrArg (fun z=>Option.bind z _) x1).trans rfl,(congrArg (fun z=>Option.bind z _) x2).trans rfl,y2,fun e=>absurd rfl e,?_,by omega,fun _ h=>.inl h⟩;rcases y4 with⟨_,_,rfl,_⟩|⟨l,d,n,rfl,_,_,_⟩
     ·exact(yRg (.inr rfl) _).ne.append (abc _ _)
     ·exact((yRg (.inl rfl) _).append (qZo _)).ne
    ·obtain⟨e,d,d',g1,B7,g2⟩:=vR9 hr h (f:=c.2) (by omega);rw[g1,ab h14,B7];simp only[ae,ak];by_cases hz:e=0
     ·obtain⟨t,l,l',paid,rfl,rfl,hd⟩:=g2 hz;rw[aa hz,hp];simp only[az,ak];subst hz;exact fin hd.dealt.ids (yF8 hr ho hd)
     ·rw[ab hz];exact⟨s,[],e,rfl,rfl,CY.none h e⟩
   ·rw[ab hp,ab (show¬c.2.1=14 by omega)];have hf:1≤c.2.1∧c.2.1≤8:=by omega
    have xq:0≤c.1∧c.1<r.1:=by omega
    have ed:RU 1000 (vK r (vP s.st c.1)) 15 []=some (dk r s c.1 [nj c.1 15 0]):=rfl;have er:vK r (vP s.st (c.1,0))=rk r s c.1:=rfl;obtain⟨e,d,d',g1,B7,g2⟩:=vU7 hr h ho xq (f:=c.2) hf;simp only[bO,ai,ak];rw[ed,er,B7];simp only[ae];rw[g1];simp only[ae];by_cases hz:e=0
    ·obtain⟨t,l,l',paid,rfl,rfl,hd⟩:=g2 hz;rw[aa hz];simp only[az,ak];subst hz;exact fin hd.dealt.ids (yF8 hr ho hd)
    ·rw[ab hz];exact⟨s,[],e,rfl,rfl,CY.none h e⟩
 ·rw[ab h0];exact⟨s,[],e,rfl,rfl,CY.none h e⟩
theorem vYa {k}(hk:10≤k)(f:zD):∃b,tm k f=some b∧(b=true→0≤yG f.1):=by
 have key:∀(c n i:Nat),i+c=6→c<n→∀x:Int,∃z,zr k n x (i:Int) f=some z∧(z=.inl x∨z=.inr false):=by
  intro c
  induction c with
  |zero=>
   intro n i h1 h2 x;obtain⟨n,rfl⟩:∃m,n=m+1:=⟨n-1,by omega⟩;obtain rfl:i=6:=by omega
   exact⟨_,rfl,.inl rfl⟩
  |succ c ih=>
   intro n i h1 h2 x;obtain⟨n,rfl⟩:∃m,n=m+1:=⟨n-1,by omega⟩;obtain⟨z,g1,g2⟩:=ih n (i+1) (by omega) (by omega) x;have st:∀v:Int,∃z',(bif !decide (v=0) then some (.inr false) else zr k n x ((i+1:Nat):Int) f)=some z'∧(z'=.inl x∨z'=.inr false):=by grind
   have:i=0∨i=1∨i=2∨i=3∨i=4∨i=5:=by omega
   rcases this with rfl|rfl|rfl|rfl|rfl|rfl
   ·exact st f.2.1
   ·exact st f.2.2.1
   ·exact st f.2.2.2.1
   ·exact st f.2.2.2.2.1
   ·exact st f.2.2.2.2.2.1
   ·exact st f.2.2.2.2.2.2
 have hm:=xG f.1;have e:yC false (yG f.1) 0=(((yG f.1).toNat:Nat):Int):=by
  grind
 obtain⟨z,g1,g2⟩:=key (6-(yG f.1).toNat) k (yG f.1).toNat (by omega) (by omega) (yG f.1);unfold tm;rw[KC,ae,e,g1,ae];rcases g2 with rfl|rfl
 all_goals simp
theorem yF2 (m:jF):tm 1000 m=kZ 1000 m:=by
 have hm:=xG m.1;by_cases h:yG m.1<0
 ·obtain⟨b,h1,h2⟩:=vYa (k:=1000) (by decide) m;obtain⟨c,h3⟩:=QX (k:=1000) (by decide) m;have hb:b=false:=by
   grind
  have hc:c=false:=by
   cases c with
   |false=>rfl
   |true=>have:=(QZ h3).1;omega
  simp_all
 ·obtain⟨n,hn⟩:∃n:Nat,yG m.1=n:=⟨(yG m.1).toNat,by omega⟩;exact my m n (by omega) (by rw[KD,hn]) (by rw[KC,hn])
theorem vYx {f:jF}(hi:kZ 1000 f=some true)(hf:ph (vC f)){n:Nat}(hn:yG f.1=n):lA ([IntKind.wrap .u8 f.1]++vN ((vC f).take n))=(f,0):=by
 obtain⟨h0,hz⟩:=QZ hi;have hm:=xG f.1;have Kr:0≤f.1∧f.1<24:=by
  unfold yG at h0;omega
 have hll:((vC f).take n).length=n:=by rw[bP];show min n 6=n;omega
 have bQ:ph ((vC f).take n):=fun x hx=>hf x (by grind)
 have hu8:IntKind.wrap .u8 f.1=f.1:=by rw[KF];omega
 have hw8:zA f.1=f.1:=zO (by omega) (by omega);unfold lA;have e1:List.drop 1 ([IntKind.wrap .u8 f.1]++vN ((vC f).take n))=vN ((vC f).take n):=rfl;have e2:([IntKind.wrap .u8 f.1]++vN ((vC f).take n)).getD 0 0=f.1:=hu8;rw[if_neg (by simp),e1,e2,hw8,X2 bQ];rw[if_neg (by grind)];have g:∀j,j<6→((vC f).take n).getD j 0=(vC f).getD j 0:=by grind
 rw[g 0 (by omega),g 1 (by omega),g 2 (by omega),g 3 (by omega),g 4 (by omega),g 5 (by omega)];rfl
theorem abj {f}(hf:ph (vC f)):tn 1000 f=some (.inl ())∨∃b,tn 1000 f=some (.inr b)∧0<b.length∧b.length≤49∧lA b=(f,0):=by
 unfold tn;rw[yF2];obtain⟨b,hb⟩:=QX (k:=1000) (by decide) f;rw[hb];cases b with
 |false=>simp
 |true=>
  right;have hm:=xG f.1;have h0:=(QZ hb).1;obtain⟨n,hn⟩:∃n:Nat,yG f.1=n:=⟨(yG f.1).toNat,by omega⟩;have hll:((vC f).take n).length=n:=by rw[bP];show min n 6=n;omega
  have hbl:=nX ((vC f).take n);have dz:qM [f.2.1,f.2.2.1,f.2.2.2.1,f.2.2.2.2.1,f.2.2.2.2.2.1,f.2.2.2.2.2.2] 0 (n-0)=(vC f).take n:=by
   rfl
  refine⟨[IntKind.wrap .u8 f.1]++vN ((vC f).take n),?_,by simp,by grind,vYx hb hf hn⟩;rw[KC,hn];simp only[ae];rw[aa (by simp),aa (by grind),ao,dz,G5 (by decide) (by omega) (by omega)];simp;rw[qE (by omega) (by omega)];rfl
structure Tk (L:vS) (N:Nat):Prop where
 side:L.1=0∨L.1=1
 gen:1≤L.2.1∧L.2.1≤(N:Int)+1
 rows:0≤L.2.2.1∧L.2.2.1≤(N:Int)
 stale:L.2.2.2=false
theorem Tk.more {L N M}(h:Tk L N)(hN:N≤M):Tk L M:=⟨h.side,⟨h.gen.1,by have:=h.gen.2;omega⟩,⟨h.rows.1,by have:=h.rows.2;omega⟩,h.stale⟩
structure ag8 (k:Nat) (s:xH) (b:AC):Prop where
 is:lD k s=some b
 len:b.length≤50000
theorem vLc {c:Nat}{l:EQ}(h:∀x∈l,x.length≤c):(yJ l).length≤8*(c+1)*l.length:=by
 induction l with
 |nil=>simp[yJ]
 |cons x l ih=>
  have h1:=ih fun y hy=>h y (List.mem_cons_of_mem _ hy)
  have h2:=h x (List.mem_cons_self ..);have h3:8*(c+1)*(l.length+1)=8*(c+1)*l.length+8*(c+1):=Nat.mul_succ _ _;simp only[yJ,List.flatMap_cons,ay,sL,List.length_cons] at h1⊢;rw[h3];omega
theorem qQe {l:EQ}{n:Nat}(h:∀i,i<l.length→(l.getD i []).length=n){x:AC}(hx:x∈l):x.length=n:=by
 obtain⟨i,hi,e⟩:=List.mem_iff_getElem.1 hx;have:=h i hi;rw[bY,List.getElem?_eq_getElem hi] at this;rw[←e];exact this
theorem vSr {r:qP}(hr:wT r){s:qD}(h:yD r s):∃l,iV s.st=l++[s.ids]∧l.length≤67∧∀x∈l,x.length≤9:=by
 have n6:=h.bk.n6;have n1:=h.bk.n1;have hm:=h.waits.len;have h3:=hr.n3;have hb:wS s.B.1 s.B.2.1 s.B.2.2.1 s.B.2.2.2:=h.bk;have hL:=h.laid 0 (by omega);have hol:=h.hol;refine⟨_,rfl,?_,fun x hx=>?_⟩
 ·simp only[ay,List.length_cons,List.length_nil,List.length_map];show 0+1+s.B.1.length+s.B.2.1.length+(0+1)+s.B.2.2.2.length+(0+1)+s.ho.length+s.m.length≤67;have:=hb.bl;have:=hb.pl;omega
 ·simp only[List.mem_append,List.mem_singleton,List.mem_map] at hx;rcases hx with(((((((rfl|⟨a,_,rfl⟩)|hx)|rfl)|hx)|rfl)|hx)|⟨a,_,rfl⟩)
  ·simp
  ·simp[lB]
  ·have:=qQe (l:=s.B.2.1) (fun i hi=>hb.br i (by have:=hb.bl;omega)) hx;omega
  ·show s.B.2.2.1.length≤9;have:=hb.ml;omega
  ·have:=qQe (l:=s.B.2.2.2) (fun i hi=>hb.pr i (by have:=hb.pl;omega)) hx;omega
  ·show s.pr.length≤9;rw[hL.pl];omega
  ·have:=qQe (l:=s.ho) (fun i hi=>(h.laid i (by omega)).hl) hx;omega
  ·simp[lC]
theorem vR3 {k:Nat}(hk:1000≤k){r:qP}(hr:wT r){s:qD}(h:yD r s):∃b,lD k s.st=some b∧b=yJ (iV s.st)∧b.length≤7000:=by
 obtain⟨l,e,h1,h2⟩:=vSr hr h;have hi:=h.waits.idl;have hf:jA (iV s.st):=by
  rw[e];refine⟨by rw[ay];simp;omega,fun x hx=>?_⟩;rcases List.mem_append.1 hx with hx|hx
  ·have:=h2 x hx;omega
  ·rw[List.mem_singleton.1 hx];omega
 refine⟨_,yXm hk hf,rfl,?_⟩;rw[e];have:=vLc h2;have e2:yJ (l++[s.ids])=yJ l++fV s.ids:=by simp[yJ]
 rw[e2,ay,sL];omega
def gtW (r:qP)(s:qD)(ev:Int):sK:=(r.1,r.2.1,r.2.2.1,r.2.2.2.1,r.2.2.2.2,s.t,s.B.1,s.B.2.1,s.B.2.2.1,s.B.2.2.2,s.pr,s.ho,s.m,s.ids,s.to,s.ov,ev,false)
structure qNn (r:qP) (ev:Int) (N:Nat) (s:qD) (G:sK) (L:vS) (D:wJ):Prop where
 g:G=gtW r s ev
 inv:yD r s
 calm:X1 D
 room:D.1=200000
 x:(ke D 0).length≤20000+100*N
 y:(ke D 1).length≤20000+100*N
 tk:Tk L N
theorem qNn.more {r:qP}{ev:Int}{N M:Nat}{s:qD}{G:sK}{L:vS}{D:wJ}(h:qNn r ev N s G L D)(hM:N≤M):qNn r ev M s G L D:=
 ⟨h.g,h.inv,h.calm,h.room,by have:=h.x;omega,by have:=h.y;omega,h.tk.more hM⟩
def abk (k:Nat)(r:qP)(s:qD)(a:Int)(m:zD×Int)(t:qD)(o:List qJ):Prop:=
 (m.2≠0∧t=s∧o=[(a,16,m.2,0,0,0,0,0)])∨
 (m.2=0∧∃u p e,IF k r s.st (a,m.1)=some (u,p,e)∧((e≠0∧t=s∧o=[(a,16,e,0,0,0,0,0)])∨(e=0∧u=t.st∧o=p)))
def iZ (r:qP)(s:qD)(ev:Int)(d:Bool):sK:=(r.1,r.2.1,r.2.2.1,r.2.2.2.1,r.2.2.2.2,s.t,s.B.1,s.B.2.1,s.B.2.2.1,s.B.2.2.2,s.pr,s.ho,s.m,s.ids,s.to,s.ov,ev,d)
theorem RV {r}(hr:wT r){s}(h:yD r s):∃b,lD 1000 s.st=some b∧oq 1000 s.st=some b∧b.length≤7000:=by
 obtain⟨b,h1,h2,h3⟩:=vR3 (Nat.le_refl 1000) hr h;exact⟨b,h1,by rw[h2] at h3⊢;exact vDo (by simp) (yLm (by omega)),h3⟩
theorem vUh {w:Int}{f:jF}(hi:kZ 1000 f=some true):∃b,RW 1000 (w,f)=some b∧Ng 1000 (w,f)=some (.inr b)∧b.length≤57:=by
 obtain⟨h0,hz⟩:=QZ hi;have hm:=xG f.1;obtain⟨n,hn⟩:∃n:Nat,yG f.1=n:=⟨(yG f.1).toNat,by omega⟩;have dz:qM [f.2.1,f.2.2.1,f.2.2.2.1,f.2.2.2.2.1,f.2.2.2.2.2.1,f.2.2.2.2.2.2] 0 (n-0)=(vC f).take n:=by
  unfold qM;show List.take (n-0) ((vC f).drop 0)=_;rw[List.drop_zero,Nat.sub_zero]
 have hll:((vC f).take n).length=n:=by rw[bP];show min n 6=n;omega
 have hbl:=nX ((vC f).take n);have bU:vN [w]=wZ w:=by simp[vN]
 have rW:(wZ w).length=8:=rfl;refine⟨wZ w++([IntKind.wrap .u8 f.1]++vN ((vC f).take n)),?_,?_,?_⟩
 ·unfold RW qSp;dsimp only;rw[hi];simp only[ae,az,ak];rw[KD,hn];simp only[ae];rw[aa (show(0:Int)≤(n:Int) by omega),aa (show(n:Int)≤6 by omega),ao,dz];simp only[Bool.and_self,ai];rw[ES (by omega) _ (by omega) (by omega)];simp only[ae];rw[qE (by omega) (by omega)];simp only[ai,ae];rw[ab (by rw[ay];simp;omega)];simp only[ak];rw[ES (by omega) [w] (by simp) (by simp)];simp only[ae];rw[bU,qE (by rw[ay,List.length_singleton];omega) (by rw[ay,List.length_singleton];omega)];rfl
 ·unfold Ng tn;dsimp only;rw[yF2,hi];simp only[ae,az,ak];rw[KC,hn];simp only[ae];rw[aa (show(0:Int)≤(n:Int) by omega),aa (show(n:Int)≤6 by omega),ao,dz];simp only[Bool.and_self,ai];rw[G5 (by omega) (by omega) (by omega)];simp only[ae];rw[qE (by omega) (by omega)];simp only[ai,ae];rw[show Nat.blt 0 ([IntKind.wrap .u8 f.1]++vN ((vC f).take n)).length=true by rw[Nat.blt_eq];simp,G5 (by omega) (by simp) (by simp)];simp only[ai,ae];rw[bU,qE (by rw[ay,List.length_singleton];omega) (by rw[ay,List.length_singleton];omega)];rfl
 ·rw[ay,ay,hbl,hll,rW];show 8+(1+8*n)≤57;omega
theorem abl {b:AC}(hb:b.length≤7000):∃c e,RX 1000 b=some (c,e)∧RY 1000 b=some (c,e):=by
 unfold RX RY;by_cases h:b.length<8
 · rw[aa (by omega)];exact⟨_,_,rfl,rfl⟩
 have ht:(List.take 8 b).length=8*1:=by rw[bP];omega
 have hd:(List.drop 8 b).length=b.length-8:=List.length_drop;have hg:=qR3 (k:=1000) (by decide) ht (by decide) (by decide);rw[ab (by omega),aa (by omega),hg.1,hg.2,vDn (by decide) (by omega) (by omega),yT9 (by decide) (by omega) (by omega)];simp only[ai,ak,ae];rw[show zB 0 (ez 1 (List.take 8 b)).length=true from rfl];cases decide ((lA (List.drop 8 b)).2=0) with
 |false=>exact⟨_,_,rfl,rfl⟩
 |true=>exact⟨_,_,rfl,rfl⟩
theorem abm {r:qP}(hr:wT r){s:qD}(hs:yD r s){ev:Int}{L:vS}{D:wJ}(h:td L D){c:om}{b:AC}(hb:b.length≤57)(hc:Ng 1000 c=some (.inr b)):
  ∃e L' D',RZ 1000 (iZ r s ev false) L D b=some (e,iZ r s ev false,L',D')∧R0 1000 (iZ r s ev false) (gb L) (qX D) c=some (e,iZ r s ev false,gb L',qX D')∧(e≠11→td L' D')∧gI D':=by
 obtain⟨e1,L1,D1,a1,a2,a3,a4⟩:=vB6 (k:=1000) h (b:=b) (by omega);obtain⟨S,s1,s2,s3⟩:=RV hr hs;unfold RZ R0;rw[a1,hc];simp only[ae];rw[a2];simp only[ae];by_cases h1:e1=10
 · rw[aa h1,show gM (iZ r s ev false)=s.st from rfl,s1,s2];simp only[az,ai,ak,ae];obtain⟨e2,L2,D2,b1,b2,b3,b4⟩:=yMr (k:=1000) (by decide) (a3 (by omega)) (b:=S) (by omega);rw[b1,b2];simp only[ae];by_cases h2:e2=0
   · obtain⟨e3,L3,D3,c1,c2,c3⟩:=vB6 (k:=1000) (b3 (by omega)) (b:=b) (by omega);rw[aa h2];simp only[az,ai,ak];rw[c1,c2];exact⟨e3,L3,D3,rfl,rfl,c3⟩
   · rw[ab h2];exact⟨e2,L2,D2,rfl,rfl,b3,b4⟩
 · rw[ab h1];exact⟨e1,L1,D1,rfl,rfl,a3,a4⟩
inductive tp (r:qP) (ev:Int):sK→vS→wJ→Prop
 |up {s:qD} {L:vS} {D:wJ} (i:yD r s) (h:td L D):tp r ev (iZ r s ev false) L D
 |dn {s:qD} {L:vS} {D:wJ} (i:yD r s) (h:gI D):tp r ev (iZ r s ev true) L D
theorem abn {r:qP}(hr:wT r){ev:Int}{G:sK}{L:vS}{D:wJ}(h:tp r ev G L D)(a:Int){b:AC}(hb:b.length≤8000):
  ∃o G' L' D',zu 1000 G L D a b=some (o,G',L',D')∧zv 1000 G (gb L) (qX D) a b=some (o,G',gb L',qX D')∧o.length≤300∧tp r ev G' L' D':=by
 cases h with
 |@dn s _ _ i h=>exact⟨[],iZ r s ev true,L,D,rfl,rfl,by decide,.dn i h⟩
 |@up s _ _ i h=>
  have hm:BN 1000 b=some (lA b):=vDn (by omega) (by omega) (by omega);have pc:EP 1000 b=some (lA b):=yT9 (by omega) (by omega) (by omega);have zw:=fun h=>vV3 (k:=1000) (by omega) (b:=b) h
  generalize lA b=m at hm pc zw;unfold zu zv Nh;rw[show rf 1000 (iZ r s ev false) L D=some (false,iZ r s ev false,L,D) from rfl,pc];simp only[ae,ak];rw[hm,show(iZ r s ev false).2.2.2.2.2.2.2.2.2.2.2.2.2.2.2.2.2=false from rfl];simp only[ae,ak];by_cases h0:m.2=0
  case neg=>
    rw[ab h0,CW];exact⟨_,_,L,D,rfl,rfl,by simp,.up i h⟩
  obtain⟨f1,f2⟩:=zw h0;rw[aa h0];simp only[az,ak];obtain⟨t,o,e,h1,h2,h3⟩:=yLg hr i (a,m.1);have ag9:=h3.few;have aha:=h3.bad;have hinv:=h3.inv;rw[show qZ (iZ r s ev false)=r from rfl,show gM (iZ r s ev false)=s.st from rfl,h1,h2];simp only[ae];by_cases he:e=0
  case neg=>
    rw[ab he,CW];exact⟨_,_,L,D,rfl,rfl,by simp,.up i h⟩
  subst he;rw[show decide ((0:Int)=0)=true from rfl];simp only[az,ak];cases decide (m.1.1=9) with
  |true=>exact⟨o,_,L,D,rfl,rfl,by omega,.up i h⟩
  |false=>
  simp only[ak];obtain⟨c,nT,dq,dP⟩:=vUh (w:=a) f1;obtain⟨e',L1,D1,k1,k2,k3,k4⟩:=abm hr i (ev:=ev) h dP dq;rw[nT,k2];simp only[ae];rw[k1];simp only[ae];by_cases ud:e'=0
  · have q:=k3 (by omega);obtain⟨S,s1,s2,s3⟩:=RV hr hinv;rw[aa ud,show qQc 1000 L1 D1=some (L1.2.2.1,L1,D1) from rfl,s2];simp only[ae,ai];rw[s1];show∃o' G' L' D',(bif decide (L1.2.2.1≥ev) then _ else _)=some (o',G',L',D')∧(bif decide (L1.2.2.1≥ev) then _ else _)=some (o',G',gb L',qX D')∧_;cases decide (L1.2.2.1≥ev) with
    |false=>exact⟨o,iZ r t ev false,L1,D1,rfl,rfl,by omega,.up hinv q⟩
    |true=>
      obtain⟨e3,L2,D2,b1,b2,b3,b4⟩:=yMr (k:=1000) (by decide) q (b:=S) (by omega);simp only[ai,ae];rw[b1,b2];simp only[ae];by_cases h3:e3=11
      · rw[aa h3];exact⟨o,iZ r t ev true,L2,D2,rfl,rfl,by omega,.dn hinv b4⟩
      · rw[ab h3];exact⟨o,iZ r t ev false,L2,D2,rfl,rfl,by omega,.up hinv (b3 h3)⟩
  by_cases fg:e'=10
  · rw[ab ud,aa fg,CW];exact⟨_,_,L1,D1,rfl,rfl,by simp,.up i (k3 (by omega))⟩
  · rw[ab ud,ab fg];exact⟨[],iZ r s ev true,L1,D1,rfl,rfl,by decide,.dn i k4⟩
def vu (r:qP):qD where
 t:=0
 B:=(List.replicate r.1.toNat (0,0,0),List.replicate r.1.toNat (List.replicate r.1.toNat (-1)),List.replicate r.1.toNat (-1),List.replicate r.1.toNat (List.replicate r.1.toNat 0))
 pr:=r.2.1.map Prod.fst
 ho:=List.replicate r.1.toNat (List.replicate r.2.1.length 0)
 m:=[]
 ids:=[]
 to:=0
 ov:=false
structure yHy (r:qP):Prop where
 ok:wT r
 inv:yD r (vu r)
 new:zx 1000 r=some (vu r).st
 cl:r.2.2.2.1≤20
 agT:zx 20000 r=some (vu r).st
theorem vSa n:kU n [] [] where
 dist:=List.Pairwise.nil
 len:=by decide
 sort:=List.Pairwise.nil
 may:=by simp
 time:=by simp
 were:=by simp
 asc:=List.Pairwise.nil
 pos:=by simp
 idl:=by decide
def r0:qP:=(3,[(100,1000),(7,0)],12,20,4)
def r1:qP:=(4,[(100,1000),(7,0)],12,20,100)
def r2:qP:=(3,[],20,20,4)
def r3:qP:=(3,[(100,1000),(7,0)],0,6,1)
theorem vV6 {pr h}(h1:pr=[100,7])(h2:h=[0,0]):kh [(100,1000),(7,0)] pr h:=by
 subst h1;subst h2;exact⟨by decide,rfl,rfl,by decide,by decide,by decide⟩
theorem vZu {B}(h:kP B.1 B.2.1 B.2.2.1 B.2.2.2=true):qR B:=Fh.1 h
theorem vF0:yHy r0:=⟨⟨by decide,by decide,by decide,by decide,by decide,by decide,by decide⟩,
  { tk:=by decide,bk:=vZu (by rfl),n:=rfl,hol:=rfl,
    laid:=fun i hi=>by
      have e:∀i,i<(vu r0).B.1.length→(vu r0).ho.getD i []=[0,0]:=by decide
      exact vV6 rfl (e i hi)
    cred:=by decide,most:=by decide,waits:=vSa _,sum:=by decide,tot:=by decide,over:=by decide,none:=nofun},by rfl,by decide,by rfl⟩
end Go.Ab.Gi
namespace Go.Ab.Gi
open Go.Ab Go.RowKit
def R1:wJ:=(200000,[],0,[],0,0,0,false,false,0)
def IG (k:Nat)(r:qP):wJ:=match ja k r R1 1 with
 |some (.inl x)=>x.2.1
 |_=>R1
structure ahb (k:Nat) (r:qP):Prop where
 new:Ni k 200000=some R1
 is:∀ev,1≤ev→ev≤1000→ja k r R1 ev=some (.inl (0,IG k r,gtW r (vu r) ev,(0,1,0,false)))
 calm:(!(IG k r).2.2.2.2.2.2.2.1&& !(IG k r).2.2.2.2.2.2.2.2.1&&decide ((IG k r).1=200000)&&decide ((IG k r).2.1.length≤20000)&&decide ((IG k r).2.2.2.1.length≤20000))=true
end Go.Ab.Gi
namespace Go.Ab.Gi
open Go.Ab Go.RowKit
def vv (s t:qD):Prop:=∀i,i<s.B.1.length→(t.B.1.getD i ad).1<(s.B.1.getD i ad).1→0≤(t.B.1.getD i ad).1+(t.B.1.getD i ad).2.1
theorem vv.same {s t}(h:∀i,i<s.B.1.length→(t.B.1.getD i ad).1=(s.B.1.getD i ad).1):vv s t:=fun i hi bd=>by simp_all
theorem vv.refl s:vv s s:=vv.same (by simp)
theorem vv.set {s t:qD}{j:Nat}{a:qY}(h:t.B.1=s.B.1.set j a)(ha:a.1<(s.B.1.getD j ad).1→0≤a.1+a.2.1):vv s t:=fun i hi=>by
 rw[h,fH];split
 ·next h=>rw[←h.1];exact ha
 ·omega
structure ahc (r:qP) (s:qD) (f:jF) (t:qD) (l:List yI):Prop where
 inv:yD r t
 tk:t.t=s.t
 ov:t.ov=s.ov
 few:l.length≤2
 to:t.to=s.to+(if f.1=10 then f.2.2.1 else if f.1=11 then-f.2.2.1 else 0)
 fell:vv s t
 kd:Kd l
 ids:∀x∈t.ids,x∈s.ids∨x=f.2.1
structure Did (k:Nat) (r:qP) (s:qD) (c:om) (t:qD) (o:List yI) (e:Int):Prop where
 inv:yD r t
 bad:e≠0→t=s∧o=[]
 to:e=0→t.to=s.to+(if c.2.1=10 then c.2.2.2.1 else if c.2.1=11 then-c.2.2.2.1 else 0)
 still:t=s∨(t.ov=false→fW k t.B (wE t.m t.t)=none)
 fell:vv s t
 ne:oz o
 few:o.length≤100
 ids:∀x∈t.ids,x∈s.ids∨x=c.2.2.1
instance C3:DecidableEq zH:=fun a b=>inferInstanceAs (Decidable (a=b))
theorem vMl {k}{a b:List zH}(hk:a.length<k)(hl:a.length<9223372036854775808):Nj k a b=some (decide (a=b)):=by
 unfold Nj;by_cases hlen:a.length=b.length
 case neg=>
  have e:decide (((a.length:Nat):Int)=((b.length:Nat):Int))=false:=by grind
  have:a≠b:=by grind
  simp_all
 have e:decide (((a.length:Nat):Int)=((b.length:Nat):Int))=true:=by grind
 have := fk (L := fun n i => Nk k n a b i) (N := a.length) (fun i => decide (a.getD i pd = b.getD i pd)) (.inl ()) (.inr false) (fun n=>by
  show IH k _ a b a.length=_;unfold IH;simp) (fun n i hi=>by
  show IH k _ a b i=_;unfold IH;have e7:=eq7 (a.getD i pd) (b.getD i pd);simp only[zY,qB hi hl];simp_all) hk
 rw[this,KZ pd hlen];grind
theorem vVb {r s}(hr:wT r)(h:yD r s):zy 1000 s.st s.st=some true:=by
 have hb:wS s.B.1 s.B.2.1 s.B.2.2.1 s.B.2.2.2:=h.bk;have ie:=h.bk.n6;have o9:=h.bk.n1;have hm:=h.waits.len;have hi:=h.waits.idl;have h3:=hr.n3;have hL:=h.laid 0 (by omega);have e1:K2 1000 s.B.1 s.B.2.1 s.B.2.2.1 s.B.2.2.2 s.B.1 s.B.2.1 s.B.2.2.1 s.B.2.2.2=some true:=by
  rw[Yo (by decide) hb.toSized];simp
 have e2:uB 1000 s.pr s.pr=some true:=by rw[PT (by rw[hL.pl];omega) (by rw[hL.pl];omega),aa rfl]
 have e3:BR 1000 s.ho s.ho=some true:=by
  have hol:=h.hol;rw [Yn (by omega) (by omega) (fun i hi=>by
   have:=(h.laid i (by omega)).hl;omega),aa rfl]
 have e4:Nj 1000 s.m s.m=some true:=by rw[vMl (by omega) (by omega),aa rfl]
 have e5:uB 1000 s.ids s.ids=some true:=by rw[PT (by omega) (by omega),aa rfl]
 unfold zy;have f0:s.st.1=s.t:=rfl;have f9:s.st.2.2.2.2.2.2.2.2.2.1=s.to:=rfl;have f10:s.st.2.2.2.2.2.2.2.2.2.2=s.ov:=rfl;have q:fP s.ov s.ov=true:=by cases s.ov<;>rfl
 rw[f0,f9,f10,aa rfl,aa rfl,q];refine(congrArg (fun z=>Option.bind z _) e1).trans ?_;refine(congrArg (fun z=>Option.bind z _) e2).trans ?_;refine(congrArg (fun z=>Option.bind z _) e3).trans ?_;refine(congrArg (fun z=>Option.bind z _) e4).trans ?_;refine(congrArg (fun z=>Option.bind z _) e5).trans ?_;rfl
end Go.Ab.Gi
namespace Go.Ab.Gi
open Go.Ab Go.RowKit
end Go.Ab.Gi
namespace Go.Ab.Gi
open Go.Ab Go.RowKit
theorem vWb {l:List om}(h:l.length≤reachBytes∧∀i (hi:i<l.length),Wf (.pair (.int .i64) (.pair (.int .i64) (.pair (.int .i64) (.pair (.int .i64) (.pair (.int .i64) (.pair (.int .i64) (.pair (.int .i64) (.int .i64)))))))) l[i]):∀c∈l,(-9223372036854775808≤c.1∧c.1<9223372036854775808)∧ph (vC c.2):=fun a ha=>by
 obtain⟨i,hi,rfl⟩:=List.mem_iff_getElem.1 ha;have t:=h.2 i hi;refine⟨BI t.1,fun x hx=>?_⟩;simp only[vC,List.mem_cons,List.not_mem_nil,or_false] at hx;rcases hx with rfl|rfl|rfl|rfl|rfl|rfl
 ·exact BI t.2.2.1
 ·exact BI t.2.2.2.1
 ·exact BI t.2.2.2.2.1
 ·exact BI t.2.2.2.2.2.1
 ·exact BI t.2.2.2.2.2.2.1
 ·exact BI t.2.2.2.2.2.2.2
theorem yH4 {r}(hr:wT r){rows}(hl:∀x∈rows,x.length≤7000)(hn:rows.length≤1000000):∀(m n i:Nat) s,i+m=rows.length→m<n→yD r s→
  ∃t,yD r t∧(∀ev was b0 r1 r2 L,tq 1000 n ev was rows (rows.length:Int) (i:Int) b0 r1 r2 r L s.st=some (ev,was,b0,r1,r2,r,L,t.st))∧
   (∀ev was b0 r1 r2 L,tt 1000 n ev was rows (i:Int) b0 r1 r2 r L s.st=some (ev,was,b0,r1,r2,r,L,t.st))
 |0,n,i,s,hi,ZM,hs=>by
  obtain⟨n,rfl⟩:∃m,n=m+1:=⟨n-1,by omega⟩;refine⟨s,hs,fun ev was b0 r1 r2 L=>?_,fun ev was b0 r1 r2 L=>?_⟩
  · show II 1000 (tq 1000 n) ev was rows (rows.length:Int) (i:Int) b0 r1 r2 r L s.st=_;unfold II;rw[ab (by omega)];rfl
  · show IJ 1000 (tt 1000 n) ev was rows (i:Int) b0 r1 r2 r L s.st=_;unfold IJ;rw[ab (by omega)];rfl
 |m+1,n,i,s,hi,ZM,hs=>by
  obtain⟨n,rfl⟩:∃m,n=m+1:=⟨n-1,by omega⟩;have bd:i<rows.length:=by omega
  obtain⟨c,e,q1,q2⟩:=abl (hl (rows.getD i []) (jY bd));obtain⟨u,o,f,d1,d2,d3⟩:=yLg hr hs c;have hu:=d3.inv;obtain⟨s',pU,e'⟩:∃s',yD r s'∧s'=if e=0 then u else s:=by grind
  obtain⟨t,t1,t2,t3⟩:=yH4 hr hl hn m n (i+1) s' (by omega) (by omega) pU;refine⟨t,t1,fun ev was b0 r1 r2 L=>?_,fun ev was b0 r1 r2 L=>?_⟩
  · show II 1000 (tq 1000 n) ev was rows (rows.length:Int) (i:Int) b0 r1 r2 r L s.st=_;unfold II;rw[aa (by omega),wU (by omega) (by omega),ao,q1,qB bd (by omega),←t2 ev was b0 r1 r2 L];grind
  · show IJ 1000 (tt 1000 n) ev was rows (i:Int) b0 r1 r2 r L s.st=_;unfold IJ;rw[aa (by omega),wU (by omega) (by omega),ao,q2,qB bd (by omega),←t3 ev was b0 r1 r2 L];simp;by_cases h:e=0
    · rw[aa h,d2,e',if_pos h];rfl
    · rw[ab h,e',if_neg h];rfl
def cv:((Int×wJ×sK×vS)⊕(Int×wJ))→((Int×jG×sK×vS)⊕(Int×jG))
 |.inl x=>.inl (x.1,qX x.2.1,x.2.2.1,gb x.2.2.2)
 |.inr x=>.inr (x.1,qX x.2)
inductive R2 (r:qP) (ev:Int):((Int×wJ×sK×vS)⊕(Int×wJ))→Prop
 |up {G:sK} {L:vS} {D:wJ} (h:tp r ev G L D):R2 r ev (.inl (0,D,G,L))
 |no {e:Int} {D:wJ} (h:gI D):R2 r ev (.inr (e,D))
theorem yJt {r}(hr:wT r){ev:Int}{was:Bool}{rows:EQ}(hl:∀x∈rows,x.length≤7000)(hn:rows.length<1000){D:wJ}(hc:gI D)(hu:eX D=false){L:vS}(hs:L.1=0∨L.1=1)(hg:1≤L.2.1∧L.2.1≤4611686018427387904)(hw:was=true∨L.2.2.2=false){s:qD}(h:yD r s):
  ∃ x, ((tq 1000 1000 ev was rows (rows.length:Int) 0 (D.1,D.2.2.1,D.2.2.2.2) D.2.1 D.2.2.2.1 r L s.st).bind fun z2=>
  bif z2.2.1 then ((lD 1000 z2.2.2.2.2.2.2.2).bind fun ee=>
   (ot 1000 z2.2.2.2.2.2.2.1 (z2.2.2.1.1,z2.2.2.2.1,z2.2.2.1.2.1,z2.2.2.2.2.1,z2.2.2.1.2.2) ee).bind fun cq=>
   bif !(decide (cq.1=0)) then some (.inr (cq.1,cq.2.2))
   else some (.inl (0,cq.2.2,(vK z2.2.2.2.2.2.1 (lF z2 (z2.1,false))),cq.2.1)))
  else some (.inl (0,(z2.2.2.1.1,z2.2.2.2.1,z2.2.2.1.2.1,z2.2.2.2.2.1,z2.2.2.1.2.2),(vK z2.2.2.2.2.2.1 (lF z2 (z2.1,false))),z2.2.2.2.2.2.2.1)))=some x∧
  ((tt 1000 1000 ev was rows 0 (qX D).2.2 (qX D).1 (qX D).2.1 r (gb L) s.st).bind fun z2=>
  bif z2.2.1 then ((oq 1000 z2.2.2.2.2.2.2.2).bind fun ee=>
   (pC 1000 z2.2.2.2.2.2.2.1 (z2.2.2.2.1,z2.2.2.2.2.1,z2.2.2.1) ee).bind fun cq=>
   bif !(decide (cq.1=0)) then some (.inr (cq.1,cq.2.2))
   else some (.inl (0,cq.2.2,(vK z2.2.2.2.2.2.1 (lF z2 (z2.1,false))),cq.2.1)))
  else some (.inl (0,(z2.2.2.2.1,z2.2.2.2.2.1,z2.2.2.1),(vK z2.2.2.2.2.2.1 (lF z2 (z2.1,false))),z2.2.2.2.2.2.2.1)))=some (cv x)∧R2 r ev x:=by
 obtain⟨t,t1,t2,t3⟩:=yH4 hr hl (by omega) rows.length 1000 0 s (by omega) (by omega) h;have t2:∀ev was b0 r1 r2 L,tq 1000 1000 ev was rows (rows.length:Int) 0 b0 r1 r2 r L s.st=some (ev,was,b0,r1,r2,r,L,t.st):=t2;have t3:∀ev was b0 r1 r2 L,tt 1000 1000 ev was rows 0 b0 r1 r2 r L s.st=some (ev,was,b0,r1,r2,r,L,t.st):=t3;rw[t2,t3];simp only[ae];cases was with
 |false=>
  have hw:L.2.2.2=false:=by
   simp_all
  exact⟨.inl (0,D,iZ r t ev false,L),rfl,rfl,.up (.up t1 ⟨hc,hu,hs,hg,hw⟩)⟩
 |true=>
  obtain⟨S,s1,s2,s3⟩:=RV hr t1;rw[s1,s2];simp only[ai,ae];obtain⟨e,L',D',b1,b2,b3,b4,b5,b6⟩:=yXf (k:=1000) (by decide) hc hu hs hg (b:=S) (by omega);rw[show((qX D).1,(qX D).2.1,(qX D).2.2)=qX D from rfl,b2];rw[show(D.1,D.2.1,D.2.2.1,D.2.2.2.1,D.2.2.2.2)=D from rfl,b1];simp only[ae];by_cases h0:e=0
  · rw[aa h0];exact⟨.inl (0,D',iZ r t ev false,L'),rfl,rfl,.up (.up t1 (b3 h0))⟩
  · rw[ab h0];exact⟨.inr (e,D'),rfl,rfl,.no b6⟩
theorem vZd {r}(w:yHy r)(hn:C4 1000 r=some (vu r).st)(h7:qYx 1000 r=some true)(abo:qS3 1000 r=some true)(ui:∀b,lD 1000 (vu r).st=some b→b.length≤990){ev}(aV:1≤ev∧ev≤1000){D}(hc:gI D)(hu:eX D=false){B}(hB:B≤990)(h0:(ke D 0).length≤B∧u9 (ke D 0))(h1:(ke D 1).length≤B∧u9 (ke D 1)):
  ∃x,ja 1000 r D ev=some x∧Nl 1000 r (qX D) ev=some (cv x)∧R2 r ev x:=by
 obtain⟨F,f1,f2,f3⟩:=RV w.ok w.inv;have hF:=ui F f1;obtain⟨g,m,S,rows,ok,a1,a2,a3,a4,a5⟩:=aal (k:=1000) (B:=B) (by decide) (by omega) (by omega) h0 h1;have read:∀S:AC,S.length≤990→∃(s:sZ) (ok:Bool),Hy 1000 S=some (s,ok)∧Hz 1000 S=some (s,ok)∧∃y,H3 1000 r s=some y∧HU 1000 r s=some y∧(y=true→∃t:qD,s=t.st∧yD r t):=fun S hS=>by
  obtain⟨s,ok,b1,b2,b3,b4⟩:=vNs (k:=1000) (Nat.le_refl _) (b:=S) (by omega) (by omega);obtain⟨t,et⟩:∃t:qD,s=t.st:=⟨⟨s.1,(s.2.1,s.2.2.1,s.2.2.2.1,s.2.2.2.2.1),s.2.2.2.2.2.1,s.2.2.2.2.2.2.1,s.2.2.2.2.2.2.2.1,s.2.2.2.2.2.2.2.2.1,s.2.2.2.2.2.2.2.2.2.1,s.2.2.2.2.2.2.2.2.2.2⟩,rfl⟩;subst et;exact⟨t.st,ok,b1,b2,_,aaP w.ok b3 b4,aaB w.ok b3 b4,fun h=>⟨t,rfl,aaC w.ok h⟩⟩
 unfold ja Nl;rw[abo,h7];simp only[ae,az,ak];rw[ab (show¬ev<1 by omega),ab (show¬ev>1000 by omega),a1,a2,w.new,hn];simp only[ae,ak];rw[f1,f2];simp only[ae];unfold qYg qWj;rw[a1,a2];simp only[ae];cases ok with
 |true=>
  have a5:=a5 rfl;have tb:=fun{s:qD} (h:yD r s)=>yJt w.ok (ev:=ev) (was:=true) (rows:=rows) (fun x hx=>by have:=a4.r x hx;omega) (by have:=a4.n;omega) hc hu (L:=(m,g,(rows.length:Int),true)) a3 (by rcases a4.g with q|q;exact absurd q.1 (by omega);exact q) (.inl rfl) h
  obtain⟨s,gW,b1,b2,y,b3,b4,b5⟩:=read S (by have:=a4.s;omega);simp only[ai,ae,decide_true,az,ak];rw[b1,b2];simp only[ae];cases gW with
  |false=>exact tb w.inv
  |true=>
   simp only[az,ak];rw[b3,b4];cases y with
   |false=>exact tb w.inv
   |true=>
    obtain⟨t,rfl,ht⟩:=b5 rfl;exact tb ht
 |false=>
  have hl:=He hc;simp only[ak];rw[vDv (by decide) (.inl rfl) hl.1 hl.2 (by omega)];obtain⟨e,D',c1,_,c3,c4⟩:=yR3 (k:=1000) (by decide) hc hu (.inl rfl) 1 (b:=F) (by omega);rw[c1];simp only[ae,Option.map_some];rw[show(mp (e,D')).1=e from rfl];by_cases h0:e=0
  case neg=>
   rw[ab h0];show∃x,(bif !(decide (e=0)) then _ else _)=some x∧(bif !(decide (e=0)) then _ else _)=some (cv x)∧_;rw[ab h0];exact⟨.inr (e,D'),rfl,rfl,.no c4⟩
  subst h0;have tb:=fun{s:qD} (h:yD r s)=>yJt w.ok (ev:=ev) (was:=false) (rows:=[]) (fun x hx=>absurd hx List.not_mem_nil) (by decide) c4 (c3 (by decide)) (L:=(0,1,0,false)) (.inl rfl) (by show(1:Int)≤1∧(1:Int)≤_;decide) (.inr rfl) h
  obtain⟨s,gW,b1,b2,y,b3,b4,b5⟩:=read F hF;rw[qE (by omega) (by omega)];simp only[ai,ae,decide_true,az,ak];rw[b1,b2];simp only[ae];cases gW with
  |false=>exact tb w.inv
  |true=>
   simp only[az,ak];rw[b3,b4];cases y with
   |false=>exact tb w.inv
   |true=>
    obtain⟨t,rfl,ht⟩:=b5 rfl;exact tb ht
end Go.Ab.Gi
namespace Go.Ab.Gi
open Go.Ab Go.RowKit
inductive yE5 (r:qP):qD→List PA→qD→List (List yI)→Prop
 |nil (s:qD):yE5 r s [] s []
 |cons {s t u:qD} {a:PA} {A:List PA} {o:List yI} {os:List (List yI)} (h:abk 1000 r s a.2.1 (lA a.2.2.1) t o) (hi:yD r s) (g:yE5 r t A u os):yE5 r s (a::A) u (o::os)
theorem abp (o:List yI)(h:o.length≤300):uQ 1000 o o=some true:=by
 rw[vLo (by omega) (by omega),aa rfl]
end Go.Ab.Gi
namespace Go.Ab.Gi
open Go.Ab Go.RowKit
theorem tp.st {r ev G L D}(h:tp r ev G L D):∃s,yD r s∧vw 1000 G L D=some (s.st,G,L,D)∧gM G=s.st:=by
 cases h with
 |up i h=>exact⟨_,i,rfl,rfl⟩
 |dn i h=>exact⟨_,i,rfl,rfl⟩
theorem vIj {r}(hr:wT r){ev}{l:List om}(hl:l.length≤20)(hw:∀c∈l,ph (vC c.2)):∀m n i G L D,i+m=l.length→m<n→tp r ev G L D→
  nr 1000 n (.inl (l,(i:Int),G,L,(D.1,D.2.2.1,D.2.2.2.2),D.2.1,D.2.2.2.1,G,gb L,(qX D).2.2,(qX D).1,(qX D).2.1))=some (.inl ())
 |0,n,i,G,L,D,hi,hn,h=>by
  obtain⟨n,rfl⟩:∃m,n=m+1:=⟨n-1,by omega⟩;show IK 1000 (nr 1000 n) (.inl (l,(i:Int),G,L,(D.1,D.2.2.1,D.2.2.2.2),D.2.1,D.2.2.2.1,G,gb L,(qX D).2.2,(qX D).1,(qX D).2.1))=_;unfold IK;dsimp only;rw[ab (by omega)];rfl
 |m+1,n,i,G,L,D,hi,hn,h=>by
  obtain⟨n,rfl⟩:∃m,n=m+1:=⟨n-1,by omega⟩;have bd:i<l.length:=by omega
  have go : ∀ b : AC, b.length ≤ 49 → ∃ G' L' D', tp r ev G' L' D' ∧ ((zu 1000 G L D (l.getD i (0,0,0,0,0,0,0,0)).1 b).bind fun bD=>
      bif zB (i : Int) l.length then ((zv 1000 G (gb L) (qX D) (l.getD i (0,0,0,0,0,0,0,0)).1 b).bind fun ee=>
       (uQ 1000 bD.1 ee.1).bind fun cq=>
       bif !cq then some (.inr false)
       else(vw 1000 bD.2.1 bD.2.2.1 bD.2.2.2).bind fun dt=>
       (zy 1000 dt.1 (gM ee.2.1)).bind fun kl=>
       bif !kl then some (.inr false)
       else nr 1000 n (.inl (l,(zA ((i:Int)+1)),dt.2.1,dt.2.2.1,(dt.2.2.2.1,dt.2.2.2.2.2.1,dt.2.2.2.2.2.2.2),dt.2.2.2.2.1,dt.2.2.2.2.2.2.1,ee.2.1,ee.2.2.1,ee.2.2.2.2.2,ee.2.2.2.1,ee.2.2.2.2.1)))
      else none)=nr 1000 n (.inl (l,((i+1:Nat):Int),G',L',(D'.1,D'.2.2.1,D'.2.2.2.2),D'.2.1,D'.2.2.2.1,G',gb L',(qX D').2.2,(qX D').1,(qX D').2.1)):=fun b hb=>by
   obtain⟨o,G',L',D',d1,d2,d3,d4⟩:=abn hr h (l.getD i (0,0,0,0,0,0,0,0)).1 (b:=b) (by omega);obtain⟨s,s1,s2,s3⟩:=d4.st;refine⟨G',L',D',d4,?_⟩;rw[d1,d2];simp only[ae];rw[wU (by omega) (by omega),abp _ d3,s2,s3];simp;rw[vVb hr s1,qB bd (by omega)];rfl
  have done:∀X:Option (Unit⊕Bool),(∃G' L' D',tp r ev G' L' D'∧X=nr 1000 n (.inl (l,((i+1:Nat):Int),G',L',(D'.1,D'.2.2.1,D'.2.2.2.2),D'.2.1,D'.2.2.2.1,G',gb L',(qX D').2.2,(qX D').1,(qX D').2.1)))→X=some (.inl ()):=fun X ⟨G',L',D',q1,q2⟩=>by
   rw[q2];exact vIj hr hl hw m n (i+1) G' L' D' (by omega) (by omega) q1
  show IK 1000 (nr 1000 n) (.inl (l,(i:Int),G,L,(D.1,D.2.2.1,D.2.2.2.2),D.2.1,D.2.2.2.1,G,gb L,(qX D).2.2,(qX D).1,(qX D).2.1))=_;unfold IK;dsimp only;rw[aa (by omega),wU (by omega) (by omega),ao];simp only[ai];rcases abj (hw _ (jY (d:=((0,0,0,0,0,0,0,0):om)) bd)) with hb|⟨b,hb,_,Rs,_⟩
  · have:=go [] (by simp);rw[wU (by omega) (by omega)] at this;rw[hb];exact done _ this
  · have:=go b Rs;rw[wU (by omega) (by omega)] at this;rw[hb];exact done _ this
theorem vX9 a b (l:List om)(ha:u9 a)(hb:u9 b)(hw:∀c∈l,ph (vC c.2)):R3 1000 a b l=some true:=by
 unfold R3;by_cases h1:a.length>600
 · rw[aa (by omega)];rfl
 by_cases h2:b.length>600
 · rw[ab (by omega),aa (by omega)];rfl
 by_cases h3:l.length>20
 · rw[ab (by omega),ab (by omega),aa (by omega)];rfl
 rw[ab (by omega),ab (by omega),ab (by omega)];have kn:IL 1000=some true:=by kernel_rfl
 rw[show lG 1000 0=some r0 from by kernel_rfl,show Ni 1000 20000=some (gE 20000 [] 0 [] 0 0 0 0) from by kernel_rfl,show qQ5 1000 20000=some (qX (gE 20000 [] 0 [] 0 0 0 0)) from by kernel_rfl];simp only[ak,ae];have p1:mn 1000 (gE 20000 [] 0 [] 0 0 0 0) 0 a=some (0,gE 20000 a 0 [] 0 0 0 1):=XT (by rw[zO (by simp) (by simp)];simp;omega) (by simp;omega);have p2:mn 1000 (gE 20000 a 0 [] 0 0 0 1) 1 b=some (0,gE 20000 a 0 b 0 0 0 2):=XU (by rw[zO (by simp) (by simp)];simp;omega) (by simp;omega);have p3:nW 1000 (gE 20000 a 0 b 0 0 0 2)=some (0,gE 20000 a (a.length:Int) b (b.length:Int) 0 0 3):=vT1;rw[Q2 (.inl rfl) (by show 0≤_;omega) (by show 0≤_;omega) (by omega),p1];simp only[ae,Option.map_some];rw[p2];simp only[ae];rw[p3];simp only[ae];rw[show(mp ((0:Int),gE 20000 a 0 [] 0 0 0 1)).2=qX (gE 20000 a 0 [] 0 0 0 1) from rfl,Q2 (.inr rfl) (by show a.length≤_;omega) (by show 0≤_;omega) (by omega),p2];simp only[ae,Option.map_some];rw[show(mp ((0:Int),gE 20000 a 0 b 0 0 0 2)).2=qX (gE 20000 a 0 b 0 0 0 2) from rfl,yA0,p3];simp only[ae,Option.map_some];rw[show(mp ((0:Int),gE 20000 a (a.length:Int) b (b.length:Int) 0 0 3)).2=qX (gE 20000 a (a.length:Int) b (b.length:Int) 0 0 3) from rfl];have hc:gI (gE 20000 a (a.length:Int) b (b.length:Int) 0 0 3):=⟨⟨by show(0:Int)≤(a.length:Int);omega,Int.le_refl _⟩,⟨by show(0:Int)≤(b.length:Int);omega,Int.le_refl _⟩,by show(0:Int)≤20000∧(20000:Int)≤_;decide,by show(a.length:Int)≤20000;omega,by show(b.length:Int)≤20000;omega,by show(0:Int)<_;decide⟩;have fl:(lD 1000 (vu r0).st).map (fun b=>Nat.ble b.length 990)=some true:=by kernel_rfl
 obtain ⟨x, x1, x2, x3⟩ := vZd vF0 (by kernel_rfl) (by kernel_rfl) (by kernel_rfl) (fun b h=>by
  rw[h] at fl;exact Nat.le_of_ble_eq_true (Option.some.inj fl)) (ev:=5) (by decide) hc rfl (B:=600) (by decide) ⟨by show a.length≤_;omega,ha⟩ ⟨by show b.length≤_;omega,hb⟩
 rw[x1,x2];simp only[ae];cases x3 with
 |@up G L D h=>
  have lp:=vIj vF0.ok (l:=l) (by omega) hw l.length 1000 0 G L D (by omega) (by omega) h;show(bif !(decide ((0:Int)=0)) then _ else bif !(fP false false) then _ else(nr 1000 1000 (.inl (l,((0:Nat):Int),G,L,(D.1,D.2.2.1,D.2.2.2.2),D.2.1,D.2.2.2.1,G,gb L,(qX D).2.2,(qX D).1,(qX D).2.1))).bind _)=_;rw[lp,kn];rfl
 |@no e D h=>
  show(bif !(decide (e=e)) then _ else bif !(fP true true) then _ else(nr 1000 1000 _).bind _)=_;rw[aa rfl,kn];rfl
end Go.Ab.Gi
