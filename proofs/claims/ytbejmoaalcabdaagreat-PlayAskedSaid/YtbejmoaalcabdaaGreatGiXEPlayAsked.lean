/- part 83 -/
import Derived.Test.YtbejmoaalcabdaaGreatGiXR
import Derived.Test.YtbejmoaalcabdaaGreatRows
import Derived.Test.YtbejmoaalcabdaaGreatGiXPPlayAsked
import Derived.ProofKit
import Derived.OpenShut
import Derived.ChangeOld
import Derived.Carry
import Derived.SizedLaws
set_option maxRecDepth 100000
namespace Go.Proofs.YtbejmoaalcabdaaGreat
open Go.ChangeShapes Go.WideShapes Go.ChangeAt Go.RowKit Go.Ab.Gi
theorem playAsked_own:ownKnob Tryz.prog.godebug=none:=by kernel_rfl
theorem playAsked_laidOut:laidOutB Tryz.prog=true:=by kernel_rfl
theorem playAsked_lifted (os:Os)(started:os.Started)(H:Type)(enc:TypeId×Value→H):
    ReturnsInHanded {} Tryz.checked os 4 .any (Rows.playAskedSpec.pre6 enc Tryz.prog Tryz.f4 Rows.playAskedRow.domain false) (Rows.playAskedSpec.post enc Tryz.prog Tryz.f4 false true false false):=by
  refine returnsInHanded_of_change_sized (C:=Tryz.checked) playAsked_own started (by kernel_rfl) Tryz.func4
    (ChangeSpec.witness6 (enc:=enc) (C:=Tryz.checked) false ⟨#[],#[.int .i64 0,.int .i64 0,.slice none 0 0],[]⟩ 8 (by kernel_rfl) (by kernel_rfl) (by kernel_rfl) (by kernel_rfl)) ?_
  intro W base args ds gs before JH hW abg xN _
  have lf:∀(j:Nat) t v,Tryz.f4.params[j]? =some t→args[j]? =some v→Value.okWide Tryz.prog W .any base t v:=JH
  have hW':=hW
  obtain⟨p,q,hA0,hV,rfl,Bz,dz⟩:=hW
  have hA:DataW.TrodAll enc Tryz.prog W 0 (fun _=>true) true Tryz.f4.params.toList args.toList ds p:=hA0
  rw[Tryz.params4] at hA lf xN
  have hA1:=hA
  obtain⟨v0,vs0,d0,ds0,p0,q0,cG,rfl,rfl,h0,r0⟩:=trodAll_cons hA
  obtain⟨v1,vs1,d1,ds1,p1,q1,rfl,rfl,rfl,h1,r1⟩:=trodAll_cons r0
  obtain⟨v2,vs2,d2,ds2,p2,q2,rfl,rfl,rfl,h2,r2⟩:=trodAll_cons r1
  obtain⟨rfl,rfl,rfl⟩:=trodAll_nil r2
  obtain rfl:args=#[v0,v1,v2]:=by cases args;simp_all
  obtain⟨rfl,rfl⟩:=trodVars_none hV
  have k0:=h0
  have lt0:∀x∈p0,x.block<W.heap.size:=by obtain⟨m,hm⟩:=k0;exact DataW.trod_lt m _ _ _ hm
  have k1:=h1
  have lt1:∀x∈p1,x.block<W.heap.size:=by obtain⟨m,hm⟩:=k1;exact DataW.trod_lt m _ _ _ hm
  have k2:=h2
  have lt2:∀x∈p2,x.block<W.heap.size:=by obtain⟨m,hm⟩:=k2;exact DataW.trod_lt m _ _ _ hm
  obtain⟨x,hx,hb,B4⟩:=Go.Ab.lawArgs false (ts:=[3,3,34]) (tys:=[(.int .i64),(.int .i64),(.sl (.pair (.int .i64) (.pair (.int .i64) (.pair (.int .i64) (.pair (.int .i64) (.pair (.int .i64) (.pair (.int .i64) (.pair (.int .i64) (.int .i64)))))))))]) (asp:=VM) (by kernel_rfl) (by kernel_rfl) (fun j t v h1 h2=>lf j t v (by simpa using h1) (by simpa using h2)) hA1 xN
  obtain⟨k,hk⟩:=vJ0 x B4
  refine(Go.Ab.law_calls N6.ok N6.loc gh (f:=4) (fn:=Tryz.f4) (by kernel_rfl) (Go.Ab.body_loops (Go.Ab.loopsOK_of (n:=2) (by kernel_rfl) fun i hi=>match i,hi with|0,_=>⟨N7,by kernel_rfl,vPu⟩|1,_=>⟨N8,by kernel_rfl,VN⟩|i+2,hi=>absurd hi (by omega))) (fun _=>rfl) ((vEd k x).trans hk) hb hx).mono fun e W' ⟨he,N9⟩=>?_
  subst he
  exact⟨_,rfl,_,_,_,[],_,[],hW',trodAll_mk1 (shut_bool Tryz.underlying4 _),(trodAll_cons_mk (Below.trod playAsked_laidOut (by kernel_rfl) (of_decide_eq_true (by kernel_rfl)) k0 N9 lt0) (trodAll_cons_mk (Below.trod playAsked_laidOut (by kernel_rfl) (of_decide_eq_true (by kernel_rfl)) k1 N9 lt1) (trodAll_cons_mk (Below.trod playAsked_laidOut (by kernel_rfl) (of_decide_eq_true (by kernel_rfl)) k2 N9 lt2) trodAll_mk0))),rfl,N9.frame _,fun h=>by cases h⟩
theorem playAsked_facts:joinedFacts Tryz.pinned.checked.prog 4 Tryz.f4 Rows.playAskedSpec Rows.playAskedRow=true:=by kernel_rfl
theorem playAsked_named:Tryz.pinned.checked.prog.funcNamed Rows.playAskedRow.func=some 4:=by kernel_rfl
theorem playAsked_holds:Rows.PlayAskedSaid:=
  OpenClaim.holds_of_wide 4 Tryz.f4 rfl rfl rfl rfl rfl rfl rfl ⟨rfl,rfl,rfl,rfl,rfl⟩ rfl rfl rfl rfl rfl playAsked_named Tryz.func4 playAsked_facts
    (of_decide_eq_true (by kernel_rfl)) (by unfold Func.isWrapper;first|(rw[if_pos (by decide+kernel)];kernel_rfl)|(rw[if_neg (by decide+kernel)];exact⟨rfl,rfl⟩))
    (fun os started H enc _=>playAsked_lifted os started H enc)
end Go.Proofs.YtbejmoaalcabdaaGreat
