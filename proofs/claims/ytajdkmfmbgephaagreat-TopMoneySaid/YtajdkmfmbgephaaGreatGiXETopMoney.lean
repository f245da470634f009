/- part 104 -/
import Derived.Test.YtajdkmfmbgephaaGreatGiXR
import Derived.Test.YtajdkmfmbgephaaGreatRows
import Derived.Test.YtajdkmfmbgephaaGreatGiXPTopMoney
import Derived.ProofKit
import Derived.OpenShut
import Derived.ChangeOld
import Derived.Carry
import Derived.SizedLaws
set_option maxRecDepth 100000
namespace Go.Proofs.YtajdkmfmbgephaaGreat
open Go.ChangeShapes Go.WideShapes Go.ChangeAt Go.RowKit Go.Ab.Gi
theorem topMoney_own:ownKnob Tryz.prog.godebug=none:=by kernel_rfl
theorem topMoney_laidOut:laidOutB Tryz.prog=true:=by kernel_rfl
theorem topMoney_lifted (os:Os)(started:os.Started)(H:Type)(enc:TypeId×Value→H):
    ReturnsInHanded {} Tryz.checked os 3 .any (Rows.topMoneySpec.pre6 enc Tryz.prog Tryz.f3 Rows.topMoneyRow.domain false) (Rows.topMoneySpec.post enc Tryz.prog Tryz.f3 false true false false):=by
  refine returnsInHanded_of_change_sized (C:=Tryz.checked) topMoney_own started (by kernel_rfl) Tryz.func3
    (ChangeSpec.witness6 (enc:=enc) (C:=Tryz.checked) false ⟨#[],#[.int .i64 0,.slice none 0 0],[]⟩ 8 (by kernel_rfl) (by kernel_rfl) (by kernel_rfl) (by kernel_rfl)) ?_
  intro W base args ds gs before Gh hW aaq ua _
  have iP:∀(j:Nat) t v,Tryz.f3.params[j]? =some t→args[j]? =some v→Value.okWide Tryz.prog W .any base t v:=Gh
  have hW':=hW
  obtain⟨p,q,hA0,hV,rfl,xE,cC⟩:=hW
  have hA:DataW.TrodAll enc Tryz.prog W 0 (fun _=>true) true Tryz.f3.params.toList args.toList ds p:=hA0
  rw[Tryz.params3] at hA iP ua
  have hA1:=hA
  obtain⟨v0,vs0,d0,ds0,p0,q0,bT,rfl,rfl,h0,r0⟩:=trodAll_cons hA
  obtain⟨v1,vs1,d1,ds1,p1,q1,rfl,rfl,rfl,h1,r1⟩:=trodAll_cons r0
  obtain⟨rfl,rfl,rfl⟩:=trodAll_nil r1
  obtain rfl:args=#[v0,v1]:=by cases args;simp_all
  obtain⟨rfl,rfl⟩:=trodVars_none hV
  have k0:=h0
  have lt0:∀x∈p0,x.block<W.heap.size:=by obtain⟨m,hm⟩:=k0;exact DataW.trod_lt m _ _ _ hm
  have k1:=h1
  have lt1:∀x∈p1,x.block<W.heap.size:=by obtain⟨m,hm⟩:=k1;exact DataW.trod_lt m _ _ _ hm
  obtain⟨x,hx,hb,yd⟩:=Go.Ab.lawArgs false (ts:=[3,22]) (tys:=[(.int .i64),(.sl (.pair (.int .i64) (.pair (.int .i64) (.pair (.sl (.int .u8)) (.pair (.int .i64) (.int .i64))))))]) (asp:=QL) (by kernel_rfl) (by kernel_rfl) (fun j t v h1 h2=>iP j t v (by simpa using h1) (by simpa using h2)) hA1 ua
  obtain⟨k,hk⟩:=yQo x yd
  refine(Go.Ab.law_calls Gj.ok Gj.loc gJ (f:=3) (fn:=Tryz.f3) (by kernel_rfl) (Go.Ab.body_loops (Go.Ab.loopsOK_of (n:=3) (by kernel_rfl) fun i hi=>match i,hi with|0,_=>⟨Ko,by kernel_rfl,yNt⟩|1,_=>⟨Kp,by kernel_rfl,vFt⟩|2,_=>⟨Kq,by kernel_rfl,vFs⟩|i+3,hi=>absurd hi (by omega))) (fun _=>rfl) ((yO7 k x).trans hk) hb hx).mono fun e W' ⟨he,QM⟩=>?_
  subst he
  exact⟨_,rfl,_,_,_,[],_,[],hW',trodAll_mk1 (shut_bool Tryz.underlying4 _),(trodAll_cons_mk (Below.trod topMoney_laidOut (by kernel_rfl) (of_decide_eq_true (by kernel_rfl)) k0 QM lt0) (trodAll_cons_mk (Below.trod topMoney_laidOut (by kernel_rfl) (of_decide_eq_true (by kernel_rfl)) k1 QM lt1) trodAll_mk0)),rfl,QM.frame _,fun h=>by cases h⟩
theorem topMoney_facts:joinedFacts Tryz.pinned.checked.prog 3 Tryz.f3 Rows.topMoneySpec Rows.topMoneyRow=true:=by kernel_rfl
theorem topMoney_named:Tryz.pinned.checked.prog.funcNamed Rows.topMoneyRow.func=some 3:=by kernel_rfl
theorem topMoney_holds:Rows.TopMoneySaid:=
  OpenClaim.holds_of_wide 3 Tryz.f3 rfl rfl rfl rfl rfl rfl rfl ⟨rfl,rfl,rfl,rfl,rfl⟩ rfl rfl rfl rfl rfl topMoney_named Tryz.func3 topMoney_facts
    (of_decide_eq_true (by kernel_rfl)) (by unfold Func.isWrapper;first|(rw[if_pos (by decide+kernel)];kernel_rfl)|(rw[if_neg (by decide+kernel)];exact⟨rfl,rfl⟩))
    (fun os started H enc _=>topMoney_lifted os started H enc)
end Go.Proofs.YtajdkmfmbgephaaGreat
