/- part 65 -/
import Derived.Test.YtdhajnjinkknkaaGreatGiXR
import Derived.Test.YtdhajnjinkknkaaGreatRows
import Derived.Test.YtdhajnjinkknkaaGreatGiXPCorePlays
import Derived.ProofKit
import Derived.OpenShut
import Derived.ChangeOld
import Derived.Carry
set_option maxRecDepth 100000
namespace Go.Proofs.YtdhajnjinkknkaaGreat
open Go.ChangeShapes Go.WideShapes Go.ChangeAt Go.RowKit Go.Ab.Gi
theorem corePlays_own:ownKnob Tryz.prog.godebug=none:=by kernel_rfl
theorem corePlays_laidOut:laidOutB Tryz.prog=true:=by kernel_rfl
theorem corePlays_lifted (os:Os)(started:os.Started)(H:Type)(enc:TypeId×Value→H):
    ReturnsInHanded {} Tryz.checked os 9 .any (Rows.corePlaysSpec.pre6 enc Tryz.prog Tryz.f9 Rows.corePlaysRow.domain false) (Rows.corePlaysSpec.post enc Tryz.prog Tryz.f9 false true false false):=by
  refine returnsInHanded_of_change (C:=Tryz.checked) corePlays_own started (by kernel_rfl) Tryz.func9
    (ChangeSpec.witness6 (enc:=enc) (C:=Tryz.checked) false ⟨#[],#[.int .i64 0,.slice none 0 0],[]⟩ 8 (by kernel_rfl) (by kernel_rfl) (by kernel_rfl) (by kernel_rfl)) ?_
  intro W base args ds gs before GU hW aan _
  have kf:∀(j:Nat) t v,Tryz.f9.params[j]? =some t→args[j]? =some v→Value.okWide Tryz.prog W .any base t v:=GU
  have hW':=hW
  obtain⟨p,q,hA0,hV,rfl,tW,dB⟩:=hW
  have hA:DataW.TrodAll enc Tryz.prog W 0 (fun _=>true) true Tryz.f9.params.toList args.toList ds p:=hA0
  rw[Tryz.params9] at hA kf
  have hA1:=hA
  obtain⟨v0,vs0,d0,ds0,p0,q0,cK,rfl,rfl,h0,r0⟩:=trodAll_cons hA
  obtain⟨v1,vs1,d1,ds1,p1,q1,rfl,rfl,rfl,h1,r1⟩:=trodAll_cons r0
  obtain⟨rfl,rfl,rfl⟩:=trodAll_nil r1
  obtain rfl:args=#[v0,v1]:=by cases args;simp_all
  obtain⟨rfl,rfl⟩:=trodVars_none hV
  have k0:=h0
  have lt0:∀x∈p0,x.block<W.heap.size:=by obtain⟨m,hm⟩:=k0;exact DataW.trod_lt m _ _ _ hm
  have k1:=h1
  have lt1:∀x∈p1,x.block<W.heap.size:=by obtain⟨m,hm⟩:=k1;exact DataW.trod_lt m _ _ _ hm
  obtain⟨x,hx,hb,yp⟩:=Go.Ab.lawArgs false (ts:=[3,22]) (tys:=[(.int .i64),(.sl (.pair (.int .i64) (.pair (.int .i64) (.pair (.int .i64) (.pair (.int .i64) (.pair (.int .i64) (.pair (.int .i64) (.pair (.int .i64) (.int .i64)))))))))]) (asp:=R4) (by kernel_rfl) (by kernel_rfl) (fun j t v h1 h2=>kf j t v (by simpa using h1) (by simpa using h2)) hA1
  obtain⟨k,hk⟩:=vIh x yp
  refine(Go.Ab.law_calls R5.ok R5.loc zM (f:=9) (fn:=Tryz.f9) (by kernel_rfl) (Go.Ab.body_loops (Go.Ab.loops1 vRi)) (fun _=>rfl) ((vAg k x).trans hk) hb hx).mono fun e W' ⟨he,R6⟩=>?_
  subst he
  exact⟨_,rfl,_,_,_,[],_,[],hW',trodAll_mk1 (shut_bool Tryz.underlying4 _),(trodAll_cons_mk (Below.trod corePlays_laidOut (by kernel_rfl) (of_decide_eq_true (by kernel_rfl)) k0 R6 lt0) (trodAll_cons_mk (Below.trod corePlays_laidOut (by kernel_rfl) (of_decide_eq_true (by kernel_rfl)) k1 R6 lt1) trodAll_mk0)),rfl,R6.frame _,fun h=>by cases h⟩
theorem corePlays_holds:Rows.CorePlaysSaid:=
  OpenClaim.holds_of_wide 9 Tryz.f9 rfl rfl rfl rfl rfl rfl rfl ⟨rfl,rfl,rfl,rfl,rfl⟩ rfl rfl rfl rfl rfl (by kernel_rfl) Tryz.func9 (by kernel_rfl)
    (of_decide_eq_true (by kernel_rfl)) (by unfold Func.isWrapper;first|(rw[if_pos (by decide+kernel)];kernel_rfl)|(rw[if_neg (by decide+kernel)];exact⟨rfl,rfl⟩))
    (fun os started H enc _=>corePlays_lifted os started H enc)
end Go.Proofs.YtdhajnjinkknkaaGreat
