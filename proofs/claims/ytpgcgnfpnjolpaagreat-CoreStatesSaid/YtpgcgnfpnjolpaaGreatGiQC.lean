/- Plain proofs, part 2. -/
import Derived.Test.YtpgcgnfpnjolpaaGreatGiQB
set_option linter.unusedVariables false
set_option linter.unusedSimpArgs false
set_option maxRecDepth 100000
namespace Go.Ab.Gi
open Go.Ab Go.RowKit
theorem HT (k:Nat)(a b c:Int):tU k a b c=some (decide (a≥b)&&decide (a≤c)):=by
 unfold tU;cases decide (a≥b)<;>rfl
def L6 (a:Int×Int):Bool:=(decide (a.1≥0)&&decide (a.1≤1048576))&&(decide (a.2≥0)&&decide (a.2≤10000))
theorem vCx (r:qS):∃b,L7 1000 r=some b∧(b=true→wT r):=by
 unfold L7;by_cases h1:r.1<1
 ·rw[ag h1];exact⟨false,rfl,fun e=>by cases e⟩
 rw[ai h1];by_cases h2:r.1>6
 ·rw[ag h2];exact⟨false,rfl,fun e=>by cases e⟩
 rw[ai h2];by_cases h3:(r.2.1.length:Int)>3
 ·rw[ag h3];exact⟨false,rfl,fun e=>by cases e⟩
 rw[ai h3];have l0 : xF 1000 1000 0 r = _ := jK (L := fun n i => xF 1000 n i r) (N := r.2.1.length) (fun i => L6 (r.2.1.getD i fK)) (.inl r) (.inr false) (fun n=>by
  show DO 1000 (xF 1000 n) (r.2.1.length:Int) r=_;unfold DO;rw[ai (Int.lt_irrefl _)];rfl) (fun n i hi=>by
  show DO 1000 (xF 1000 n) (i:Int) r=_;unfold DO L6;have e:r.2.1.getD i (0,0)=r.2.1.getD i fK:=rfl;rw[ag (show(i:Int)<r.2.1.length by omega),zW,ag hi,aC,e,HT,HT,qD hi (by omega)];simp only[av,ak];generalize (decide ((r.2.1.getD i fK).1≥0)&&decide ((r.2.1.getD i fK).1≤1048576))=A;generalize (decide ((r.2.1.getD i fK).2≥0)&&decide ((r.2.1.getD i fK).2≤10000))=B;cases A<;>cases B<;>rfl) (n:=1000) (by omega)
 simp only[ay];rw[l0];cases ha:qA (fun i=>L6 (r.2.1.getD i fK)) r.2.1.length 0 with
 |false=>exact⟨false,rfl,fun e=>by cases e⟩
 |true=>
  simp only[av,ak];rw[HT];simp only[ak];have bb:∀i,i<r.2.1.length→(0≤(r.2.1.getD i fK).1∧(r.2.1.getD i fK).1≤1048576)∧(0≤(r.2.1.getD i fK).2∧(r.2.1.getD i fK).2≤10000):=fun i hi=>by
   have:=wI.1 ha i hi;unfold L6 at this;simp only[bJ,bO] at this;omega
  cases hc:(decide (r.2.2.2.1≥1)&&decide (r.2.2.2.1≤1048576)) with
  |false=>exact⟨false,rfl,fun e=>by cases e⟩
  |true=>
   simp only[av];rw[HT];simp only[ak];cases hd:(decide (r.2.2.1≥0)&&decide (r.2.2.1≤r.2.2.2.1)) with
   |false=>exact⟨false,rfl,fun e=>by cases e⟩
   |true=>
    simp only[av];rw[HT];refine⟨_,rfl,fun e=>?_⟩;simp only[bJ,bO] at hc hd e;exact⟨by omega,by omega,fun i hi=>(bb i hi).1,fun i hi=>(bb i hi).2,by omega,by omega,by omega⟩
theorem vBu (r:qS)(s:qG)(h1:r.2.1.length≤140737488355328)(h2:s.m.length≤140737488355328)(h3:s.ids.length≤140737488355328)(h4:s.pr.length≤140737488355328)(h5:s.B.1.length≤140737488355328)(h6:s.B.2.2.1.length≤140737488355328):
    ∃b,L8 1000 r s.st=some b∧(b=false→s.m.length≤300∧s.ids.length≤300∧s.pr.length≤300∧s.B.1.length≤300∧s.ho.length≤20∧s.B.2.1.length≤20∧s.B.2.2.2.length≤20∧s.B.2.2.1.length≤300):=by
  have eU:L8 1000 r s.st=bif decide ((zA ((zA ((zA ((zA ((zA ((r.2.1.length:Int)+(s.m.length:Int)))+(s.ids.length:Int)))+(s.pr.length:Int)))+(s.B.1.length:Int)))+(s.B.2.2.1.length:Int)))>300) then some true
   else bif decide ((s.ho.length:Int)>20) then some true
   else bif decide ((s.B.2.1.length:Int)>20) then some true
   else bif decide ((s.B.2.2.2.length:Int)>20) then some true
   else bif decide (r.1>20) then some true
   else some (decide (r.1<0)):=rfl
  rw[eU,zN (x:=(r.2.1.length:Int)+(s.m.length:Int)) (by omega) (by omega),zN (x:=(r.2.1.length:Int)+(s.m.length:Int)+(s.ids.length:Int)) (by omega) (by omega),
    zN (x:=(r.2.1.length:Int)+(s.m.length:Int)+(s.ids.length:Int)+(s.pr.length:Int)) (by omega) (by omega),zN (x:=(r.2.1.length:Int)+(s.m.length:Int)+(s.ids.length:Int)+(s.pr.length:Int)+(s.B.1.length:Int)) (by omega) (by omega),zN (by omega) (by omega)]
  by_cases q1:(r.2.1.length:Int)+(s.m.length:Int)+(s.ids.length:Int)+(s.pr.length:Int)+(s.B.1.length:Int)+(s.B.2.2.1.length:Int)>300
  · rw[ag q1];exact⟨true,rfl,fun e=>by cases e⟩
  rw[ai q1];by_cases q2:(s.ho.length:Int)>20
  · rw[ag q2];exact⟨true,rfl,fun e=>by cases e⟩
  rw[ai q2];by_cases q3:(s.B.2.1.length:Int)>20
  · rw[ag q3];exact⟨true,rfl,fun e=>by cases e⟩
  rw[ai q3];by_cases q4:(s.B.2.2.2.length:Int)>20
  · rw[ag q4];exact⟨true,rfl,fun e=>by cases e⟩
  rw[ai q4];by_cases q5:r.1>20
  · rw[ag q5];exact⟨true,rfl,fun e=>by cases e⟩
  rw[ai q5];exact⟨_,rfl,fun _=>by omega⟩
theorem vAq (r:qS)(s:qG)(c:qy)(h1:r.2.1.length≤140737488355328)(h2:s.m.length≤140737488355328)(h3:s.ids.length≤140737488355328)(h4:s.pr.length≤140737488355328)(h5:s.B.1.length≤140737488355328)(h6:s.B.2.2.1.length≤140737488355328):L9 1000 r s.st c=some true:=by
 unfold L9;obtain⟨b,hb,hl⟩:=vBu r s h1 h2 h3 h4 h5 h6;rw[hb];cases b with
 |true=>rfl
 |false=>
 obtain⟨l1,l2,_⟩:=hl rfl;obtain⟨b7,hb7,hr⟩:=vCx r;simp only[ak,ay];rw[hb7];cases b7 with
 |false=>rfl
 |true=>
 have hr:=hr rfl;simp only[ak,bG,ay];rw[yW2 hr (by omega) (by omega)];cases hs:HS r s with
 |false=>rfl
 |true=>
 have hi:=vLk hr hs;obtain⟨t,o,e,q1,q2,q3⟩:=vCv hr hi c;have aar:=q3.few;simp only[ak,bG,ay];rw[q1];simp only[ak];rw[q2];simp only[ak];rw[vPt hr q3.inv];simp only[ak,av];rw[yY3 (by omega) (by omega),ag rfl];simp only[ak,av,decide_true];rw[vQt (Nat.le_refl 1000) hr q3.inv];have hk:R7 1000=some true:=by kernel_rfl
 simp only[ak,av];rw[hk];rfl
end Go.Ab.Gi
