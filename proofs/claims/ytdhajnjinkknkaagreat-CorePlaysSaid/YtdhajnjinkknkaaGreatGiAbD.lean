/- part 3 -/
import Derived.Test.YtdhajnjinkknkaaGreatGiAbC
import Derived.Laws.Externs
set_option linter.unusedVariables false
set_option linter.unusedSimpArgs false
set_option linter.unusedSectionVars false
namespace Go.Ab
theorem uO {n:Nat}:∀{ids:List Nat} {h:Hp},qP h (mZ ids) n=if n∈ids then some .gone else h n
 |[],_=>by simp[mZ,qP]
 |id::ids,h=>by
  show qP (yM h id .gone) (mZ ids) n=_
  rw[uO (ids:=ids)]
  by_cases e:n=id
  ·subst e;simp[yQ]
  ·rw[yZ _ _ e];simp[e]
def zC.overX (M L:zC)(au:List Nat):zC:={κ:=M.κ,F:=fun b=>M.F b∨L.G b,G:=L.G,h:=qP M.h (mZ au),H:=L.H}
theorem zC.overX_ok {M Ml L:zC}{au:List Nat}(ok:Ok M)(gD:Ok L)(lo:oq M au Ml)(ho:lD M au)(hand:∀b,qU Ml b→jg M au b)(g:gC Ml L):
  Ok (M.overX L au)∧yY M (M.overX L au)∧(∀b,qU (M.overX L au) b→qU M b∧¬jg M au b):=by
 have cg:∀b,b<M.H.size→¬jg M au b→L.H[b]? =M.H[b]? :=fun b hb hn=>by rw[g.same b (by rw[lo.F];exact⟨hb,hn⟩),lo.H]
 have dV:M.H.size≤L.H.size:=by have:=g.size;rw[lo.H] at this;exact this
 have hG:∀b,L.G b→b<M.H.size→M.G b∨jg M au b:=fun b hb hs=>by
  rcases g.Gb b hb (by rw[lo.H];exact hs) with h|h
  ·rw[lo.G] at h;exact .inl h
  ·exact .inr (hand b h)
 have hsF:∀b,M.F b→L.H[b]? =M.H[b]? :=fun b h=>cg b (pG ok ho h).1 (pG ok ho h).2
 have x:yW M (M.overX L au):=⟨fun id C h=>⟨C,h,C.le_refl⟩,fun b h=>.inl h,fun b h=>g.G b (by rw[lo.G];exact h),fun b h=>hsF b h,fun b h=>hsF b (ok.GF b h),fun b h=>by
  have:=g.bsz b (by rw[lo.H];exact h)
  rw[lo.H] at this
  exact this⟩
 have iJ:∀id o,(M.overX L au).h id=some o→o.owned=true→id∉au∧M.h id=some o:=fun id o h fZ=>by
  have h:qP M.h (mZ au) id=some o:=h
  rw[uO] at h
  by_cases hm:id∈au
  ·rw[if_pos hm] at h;cases h;cases fZ
  ·rw[if_neg hm] at h;exact⟨hm,h⟩
 have En:∀id o C,id∉au→M.h id=some o→o.owned=true→M.κ id=some C→∀b∈C.fp,¬jg M au b:=fun id o C hm h fZ hC b hb ⟨jd,hj,D,hD,Pr⟩=>by
  obtain⟨q,q1,q2⟩:=ho jd hj
  exact ok.disj id jd o q C D b (fun e=>hm (by rw[e];exact hj)) h q1 fZ q2 hC hD hb Pr
 have aM:∀b,qU (M.overX L au) b→qU M b∧¬jg M au b:=fun b ⟨id,o,C,h1,h2,h3,h4⟩=>by
  obtain⟨k1,k2⟩:=iJ id o h1 h2
  exact⟨⟨id,o,C,k2,h2,h3,h4⟩,En id o C k1 k2 h2 h3 b h4⟩
 refine⟨⟨fun id o h=>?_,fun id h=>?_,fun i j oi oj Ci Cj b jq h1 h2 h3 h4 h5 h6 h7 h8=>?_,fun b h=>⟨fun hf=>?_,?_⟩,fun b h=>.inr h,fun b h=>?_⟩,⟨x,dV,fun b hb hn=>cg b hb fun hh=>hn (hh.own ho),fun b h _=>(aM b h).1,fun b h hs=>?_,fun b h hs=>?_⟩,aM⟩
 ·have h:qP M.h (mZ au) id=some o:=h
  rw[uO] at h
  by_cases hm:id∈au
  ·rw[if_pos hm] at h
   cases h
   obtain⟨q,q1,q2⟩:=ho id hm
   obtain⟨C,hC,_⟩:=ok.obj id q q1
   exact⟨C,hC,trivial⟩
  ·rw[if_neg hm] at h
   obtain⟨C,hC,hO⟩:=ok.obj id o h
   exact⟨C,hC,hO.ext x fun fZ b hb=>cg b (ok.own b ⟨id,o,C,h,fZ,hC,hb⟩).2 (En id o C hm h fZ hC b hb)⟩
 ·have h:qP M.h (mZ au) id=none:=h
  rw[uO] at h
  by_cases hm:id∈au
  ·rw[if_pos hm] at h;cases h
  ·rw[if_neg hm] at h;exact ok.non id h
 ·exact ok.disj i j oi oj Ci Cj b jq (iJ i oi h1 h3).2 (iJ j oj h2 h4).2 h3 h4 h5 h6 h7 h8
 ·obtain⟨k1,k2⟩:=aM b h
  have:=ok.own b k1
  rcases hf with hf|hf
  ·exact this.1 hf
  ·rcases hG b hf this.2 with h|h
   ·exact this.1 (ok.GF b h)
   ·exact k2 h
 ·have h1:=(ok.own b (aM b h).1).2
  show b<L.H.size
  omega
 ·show b<L.H.size
  rcases h with h|h
  ·have:=ok.Flt b h;omega
  ·exact gD.Flt b (gD.GF b h)
 ·rcases hG b h hs with h|h
  ·exact .inl h
  ·exact .inr (h.own ho)
 ·rcases h with h|h
  ·exact .inl h
  ·rcases hG b h hs with h|h
   ·exact .inl (ok.GF b h)
   ·exact .inr (h.own ho)
def zT.bare (C:zT):zT:={C with ver:=C.ver+1,rows:=[]}
def zC.revive (M:zC)(id:Nat)(C:zT)(cs:List zL):zC:={M with κ:=κset M.κ id C.bare,h:=yM M.h id (.box true cs)}
theorem zC.revive_ok {M:zC}(ok:Ok M){id:Nat}{C:zT}{B:Nat}{vals:Array Value}{e:TypeId}{cs:List zL}(hC:M.κ id=some C)(hB:C.blk=some B)(hH:M.H[B]? =some (.cells vals e (0,0)))(hc:zQ (zZ M) cs vals.toList)
  (h1:¬qU M B) (h2:¬M.F B):Ok (M.revive id C cs)∧yW M (M.revive id C cs)∧(∀b,qU (M.revive id C cs) b→qU M b∨b=B):=by
 have hκ:(M.revive id C cs).κ id=some C.bare:=κset_same _ _ _
 have x:yW M (M.revive id C cs):=⟨fun jd D h=>by
  by_cases e':jd=id
  ·subst e'
   rw[hC] at h;cases h
   exact⟨_,hκ,rfl,rfl,rfl,Nat.le_succ _,fun h=>absurd h (by simp[zT.bare])⟩
  ·exact⟨D,by show κset M.κ id _ jd=_;rw[κset_ne _ _ e'];exact h,D.le_refl⟩,fun _ h=>h,fun _ h=>h,fun _ _=>rfl,fun _ _=>rfl,fun _ _=>rfl⟩
 have kB:C.bare.fp=[B]:=by simp[zT.fp,zT.bare,hB]
 have po:(M.revive id C cs).h id=some (.box true cs):=yQ _ _ _
 refine⟨Ok.build ok x (fun jd=>jd=id) (fun jd h=>yZ _ _ h) (fun jd h=>κset_ne _ _ h) (fun _ _ _ _ _ _ _ _ _=>rfl) (fun jd o' D k1 k2 k3 k4 b bJ=>(ok.own b ⟨jd,o',D,k2,k3,k4,bJ⟩).1) (Nat.le_refl _)
  (fun jd o' e' h=>?_) (fun jd e' h=>?_) (fun jd o' D b e' k1 k2 k3 k4=>?_) ok.GF ok.Flt,x,fun b bJ=>?_⟩
 ·subst e'
  rw[po] at h
  cases h
  exact⟨_,hκ,B,vals,e,hB,rfl,hH,hc.mono fun _ _ h=>h.ext x,fun h=>by cases h⟩
 ·subst e'
  rw[po] at h;cases h
 ·subst e'
  rw[hκ] at k3
  cases k3
  rw[kB,List.mem_singleton] at k4
  subst k4
  refine⟨fun j oj Cj hj q1 q2 q3 q4=>h1 ⟨j,oj,Cj,?_,q2,?_,q4⟩,h2,(Array.getElem?_eq_some_iff.1 hH).1⟩
  ·rw[←q1];exact(yZ _ _ hj).symm
  ·rw[←q3];exact(κset_ne _ _ hj).symm
 ·obtain⟨jd,o',D,k1,k2,k3,k4⟩:=bJ
  by_cases e':jd=id
  ·subst e'
   rw[hκ] at k3
   cases k3
   rw[kB,List.mem_singleton] at k4
   exact .inr k4
  ·exact .inl ⟨jd,o',D,by rw[←k1];exact(yZ _ _ e').symm,k2,by rw[←k3];exact(κset_ne _ _ e').symm,k4⟩
structure yUu (M:zC) (id:Nat) (cs:List zL) (B:Nat):Prop where
 at':∃C,M.κ id=some C∧C.blk=some B
 rep:∃vals e,M.H[B]? =some (.cells vals e (0,0))∧zQ (zZ M) cs vals.toList
 own:¬qU M B
 F:¬M.F B
def kJ (R:Nat→List zL→Nat→Prop):List Nat→List (List zL)→List Nat→Prop
 |[],[],[]=>True
 |a::l,b::m,c::n=>R a b c∧kJ R l m n
 |_,_,_=>False
theorem kJ.mono {R S:Nat→List zL→Nat→Prop}:∀{l:List Nat} {m:List (List zL)} {n:List Nat},(∀a b c,c∈n→R a b c→S a b c)→kJ R l m n→kJ S l m n
 |[],[],[],_,_=>trivial
 |_::_,_::_,_::_,h,k=>⟨h _ _ _ (List.mem_cons_self ..) k.1,kJ.mono (fun a b c hc=>h a b c (List.mem_cons_of_mem _ hc)) k.2⟩
 |[],[],_::_,_,k=>k.elim
 |[],_::_,_,_,k=>k.elim
 |_::_,[],_,_,k=>k.elim
 |_::_,_::_,[],_,k=>k.elim
theorem yW4:∀{ids:List Nat} {css:List (List zL)} {Bs:List Nat} {M:zC},Ok M→kJ (yUu M) ids css Bs→Bs.Nodup→
  ∃M':zC,M'.H=M.H∧M'.G=M.G∧M'.F=M.F∧M'.h=qP M.h (uL ids css)∧Ok M'∧yW M M'∧(∀b,qU M' b→qU M b∨b∈Bs)
 |[],[],[],M,ok,_,_=>⟨M,rfl,rfl,rfl,rfl,ok,.refl M,fun _ h=>.inl h⟩
 |id::ids,cs::css,B::Bs,M,ok,h,hn=>by
  obtain⟨C,hC,hB⟩:=h.1.at'
  obtain⟨vals,e,hH,hc⟩:=h.1.rep
  obtain⟨k1,k2,k3⟩:=zC.revive_ok ok hC hB hH hc h.1.own h.1.F
  obtain⟨n1,n2⟩:=List.nodup_cons.1 hn
  obtain ⟨M', a1, a2, a3, a4, a5, a6, a7⟩ := yW4 (M := M.revive id C cs) k1 (kJ.mono (fun a b c hcB hb=>by
   refine⟨?_,?_,fun ho=>?_,hb.F⟩
   ·obtain⟨D,q1,q2⟩:=hb.at'
    obtain⟨D',q3,le⟩:=k2.κ _ _ q1
    exact⟨D',q3,le.blk.trans q2⟩
   ·obtain⟨vals,e,q1,q2⟩:=hb.rep
    exact⟨vals,e,q1,q2.mono fun _ _ h=>h.ext k2⟩
   ·rcases k3 _ ho with h|h
    ·exact hb.own h
    ·subst h;exact n1 hcB) h.2) n2
  exact⟨M',a1,a2,a3,a4,a5,yW.trans (M:=M) (M':=M.revive id C cs) (Nat.le_refl _) k2 a6,fun b hb=>by
   rcases a7 b hb with h|h
   ·exact(k3 b h).imp (fun h=>h) fun h=>by rw[h];exact List.mem_cons_self ..
   ·exact .inr (List.mem_cons_of_mem _ h)⟩
 |[],[],_::_,_,_,h,_=>h.elim
 |[],_::_,_,_,_,h,_=>h.elim
 |_::_,[],_,_,_,h,_=>h.elim
 |_::_,_::_,[],_,_,h,_=>h.elim
theorem qYu:∀{ids:List Nat} {css:List (List zL)} {h h':Hp},ids.length=css.length→(∀n,n∉ids→h n=h' n)→qP h (uL ids css)=qP h' (uL ids css)
 |[],[],h,h',_,e=>funext fun n=>e n (by simp)
 |id::ids,cs::css,h,h',hl,e=>qYu (ids:=ids) (css:=css) (by simpa using hl) fun n hn=>by
   by_cases k:n=id
   ·subst k;rw[yQ,yQ]
   ·rw[yZ _ _ k,yZ _ _ k];exact e n (by simp[k,hn])
 |[],_::_,_,_,hl,_=>by simp at hl
 |_::_,[],_,_,hl,_=>by simp at hl
theorem vOm {h0:Hp}{s:AX}{a a':zI}{v:Value}{u:qH}{M:zC}(ok:Ok M)(hf:wN h0 M.h)(hv:qA M a v)(h:ss h0 s a=some (a',u)):
  ∃L:zC,L.H=M.H∧L.h=qP M.h u∧Ok L∧yY M L∧qA L a' v∧wN h0 L.h:=by
 unfold ss at h
 split at h
 ·rename_i p x
  split at h
  ·rename_i y u1 e
   cases h
   obtain⟨L,h1,h2,h3,h4,h5,h6⟩:=si (cs:=[x]) (vs:=[v]) ok hf ⟨hv,trivial⟩ e
   exact⟨L,h1,h2,h3,h4,h5.1,h6⟩
  ·cases h
 ·rename_i l xs
  split at h
  ·rename_i ys u1 e
   cases h
   obtain⟨vs,rfl,hx⟩:=hv
   obtain⟨L,h1,h2,h3,h4,h5,h6⟩:=si ok hf hx e
   exact⟨L,h1,h2,h3,h4,⟨vs,rfl,h5⟩,h6⟩
  ·cases h
 ·cases h
  exact⟨M,rfl,rfl,ok,.refl M,hv,hf⟩
theorem yRw {h0:Hp}:∀{l:List AX} {as eH:List zI} {vs:List Value} {u:qH} {M:zC},Ok M→wN h0 M.h→zQ (qA M) as vs→oh h0 l as=some (eH,u)→
  ∃L:zC,L.H=M.H∧L.h=qP M.h u∧Ok L∧yY M L∧zQ (qA L) eH vs∧wN h0 L.h
 |s::l,a::as,eH,v::vs,u,M,ok,hf,hv,h=>by
  unfold oh at h
  split at h
  ·rename_i a1 u1 Pt nP e1 e2
   cases h
   obtain⟨M1,h1,h2,h3,h4,h5,h6⟩:=vOm ok hf hv.1 e1
   obtain⟨M2,k1,k2,k3,k4,k5,k6⟩:=yRw h3 h6 (sj.ext h4.ext hv.2) e2
   exact⟨M2,k1.trans h1,by rw[k2,h2,jt],k3,h4.trans k4,⟨h5.ext k4.ext,k5⟩,k6⟩
  ·cases h
 |[],as,eH,vs,u,M,ok,hf,hv,h=>by
  cases as<;>cases h<;>exact⟨M,rfl,rfl,ok,.refl M,hv,hf⟩
 |s::l,[],eH,vs,u,M,ok,hf,hv,h=>by cases h;exact⟨M,rfl,rfl,ok,.refl M,hv,hf⟩
 |_::_,_::_,_,[],_,_,_,_,hv,_=>hv.elim
def sv (M L:zC)(id jd:Nat):Prop:=∃C D B,M.κ id=some C∧C.blk=some B∧L.κ jd=some D∧D.blk=some B
theorem PM {M L:zC}:∀{ls:List (Bool×List XC)} {is js out:List Nat} {us:List Value} {cs:List zL} {bs:List (Bool×Nat)},mX M.h ls is=some (cs,bs)→Eg ls js=some out→
  zQ (fun id u=>∃C B,M.κ id=some C∧C.blk=some B∧u=.pointer (some ⟨B,0,none⟩)) is us→zQ (fun id u=>∃C B,L.κ id=some C∧C.blk=some B∧u=.pointer (some ⟨B,0,none⟩)) js us→zQ (sv M L) (vT bs) out
 |[],[],[],out,us,cs,bs,h,k,_,_=>by cases h;cases k;exact trivial
 |(io,l)::ls,i::is,j::js,out,u::us,cs,bs,h,k,p,q=>by
  unfold mX at h
  split at h
  ·rename_i cells rest Is h1 h2
   obtain⟨_,h⟩:=vX h
   cases h
   unfold Eg at k
   split at k
   ·rename_i o ho
    cases k
    have ih:=PM h2 ho p.2 q.2
    cases io with
    |false=>exact ih
    |true=>
     obtain⟨C,B,k1,k2,k3⟩:=p.1
     obtain⟨D,B',k4,k5,k6⟩:=q.1
     rw[k3] at k6
     cases k6
     exact⟨⟨C,D,B,k1,k2,k4,k5⟩,ih⟩
   ·cases k
  ·cases h
 |[],_::_,_,_,_,_,_,h,_,_,_=>by cases h
 |_::_,[],_,_,_,_,_,h,_,_,_=>by cases h
 |[],[],_::_,_,_,_,_,_,k,_,_=>by cases k
 |_::_,_::_,[],_,_,_,_,_,k,_,_=>by cases k
 |_::_,_::_,_::_,_,[],_,_,_,_,p,_=>p.elim
theorem vQw {M L:zC}{s:AX}{a b:zI}{v:Value}{cs:List zL}{bs:List (Bool×Nat)}{out:List Nat}(h:s.get M.h a=some (cs,bs))(k:s.io b=some out)(p:qA M a v)(q:s.looks=true→qA L b v):zQ (sv M L) (vT bs) out:=by
 unfold AX.get at h
 split at h
 ·cases h;cases k;exact trivial
 ·obtain⟨_,h'⟩:=vX h
  cases h';cases k;exact trivial
 ·rename_i io l id
  unfold AX.io at k
  split at k
  ·rename_i e;cases e
  ·rename_i e;cases e
  ·rename_i io' l' jd e
   cases e
   exact PM (us:=[v]) h k ⟨p,trivial⟩ ⟨q rfl,trivial⟩
  ·rename_i e;cases e
  ·cases k
 ·rename_i f bD g ids
  obtain⟨hg,h'⟩:=vX h
  unfold AX.io at k
  split at k
  ·rename_i e;cases e
  ·rename_i e;cases e
  ·rename_i e;cases e
  ·rename_i f' aab g' js e
   cases e
   obtain⟨cv,rfl,hc⟩:=p
   obtain⟨cv',e',ju⟩:=q rfl
   cases e'
   exact PM h' k hc ju
  ·cases k
 ·cases h
theorem qXc {M L:zC}:∀{l:List AX} {as:List zI} {vs:List Value} {t:Nat→zI} {n:Nat} {cs:List zL} {bs:List (Bool×Nat)} {out:List Nat},j5 M.h l as=some (cs,bs)→Eh l t n=some out→zQ (qA M) as vs→(∀i (h:i<vs.length) s,l[i]? =some s→s.looks=true→qA L (t (n+i)) vs[i])→
  zQ (sv M L) (vT bs) out
 |[],[],[],t,n,cs,bs,out,h,k,_,_=>by cases h;cases k;exact trivial
 |s::l,a::as,v::vs,t,n,cs,bs,out,h,k,p,q=>by
  unfold j5 at h
  split at h
  ·rename_i c1 b1 c2 b2 h1 h2
   cases h
   unfold Eh at k
   split at k
   ·rename_i o1 o2 k1 k2
    cases k
    have e:∀b1 b2:List (Bool×Nat),vT (b1++b2)=vT b1++vT b2:=fun b1 b2=>by
     induction b1 with
     |nil=>rfl
     |cons x b1 ih=>obtain⟨io,y⟩:=x;cases io<;>simp[vT,ih]
    rw[e]
    refine(vQw h1 k1 p.1 (q 0 (by simp) s rfl)).append (qXc h2 k2 p.2 fun i hi s' hs hl=>?_)
    have:=q (i+1) (by simpa using hi) s' (by simpa using hs) hl
    rw[show n+(i+1)=n+1+i by omega] at this
    simpa using this
   ·cases k
  ·cases h
 |[],[],_::_,_,_,_,_,_,_,_,p,_=>p.elim
 |[],_::_,_,_,_,_,_,_,h,_,_,_=>by cases h
 |_::_,[],_,_,_,_,_,_,h,_,_,_=>by cases h
 |_::_,_::_,[],_,_,_,_,_,_,_,p,_=>p.elim
theorem qZz {L:zC}(gD:Ok L):∀{os:List (List RC)} {ids:List Nat} {bs:List zL},Ei L.h os ids=some bs→bs.length=os.flatten.length∧ids.length=os.length∧
  ∃us:List Value,zQ (zZ L) bs us∧∀{M:zC} {cs:List zL},M.H=L.H→zQ (zZ M) cs us→kJ (fun id cs B=>(∃cells,L.h id=some (.box true cells))∧(∃C,L.κ id=some C∧C.blk=some B∧C.rows=[])∧∃vals e,M.H[B]? =some (.cells vals e (0,0))∧zQ (zZ M) cs vals.toList) ids (sr os cs) (ids.map fun id=>((L.κ id).bind zT.blk).getD 0)
 |[],[],bs,h=>by cases h;exact⟨rfl,rfl,[],trivial,fun _ _=>trivial⟩
 |o::os,n::ns,bs,h=>by
  unfold Ei at h
  split at h
  ·rename_i cells rest h1 h2
   obtain⟨hl,h⟩:=vX h
   cases h
   have hl:cells.length=o.length:=Nat.eq_of_beq_eq_true hl
   obtain⟨C,hC,B,vals,e,q1,q2,q3,q4,_⟩:=gD.obj n _ h1
   obtain⟨k1,k2,us,k3,k4⟩:=qZz gD h2
   refine⟨by simp[hl,k1],by simp[k2],vals.toList++us,q4.append k3,fun{M cs} hH hc=>⟨⟨⟨cells,h1⟩,⟨C,hC,?_,q2⟩,vals,e,?_,?_⟩,?_⟩⟩
   ·show C.blk=some (((L.κ n).bind zT.blk).getD 0);rw[hC];show C.blk=some (C.blk.getD 0);rw[q1];rfl
   ·show M.H[((L.κ n).bind zT.blk).getD 0]? =_;rw[hC,hH];show L.H[C.blk.getD 0]? =_;rw[q1];exact q3
   ·have h1:=zQ.take o.length hc
    have Ps:=q4.length
    rw[show(vals.toList++us).take o.length=vals.toList from by rw[List.take_append_of_le_length (by omega),List.take_of_length_le (by omega)]] at h1
    exact h1
   ·have h1:=zQ.drop o.length hc
    have Ps:=q4.length
    rw[show(vals.toList++us).drop o.length=us from by rw[show o.length=vals.toList.length by omega,List.drop_left]] at h1
    exact k4 hH h1
  ·cases h
 |[],_::_,_,h=>by cases h
 |_::_,[],_,h=>by cases h
theorem vK6 {h0:Hp}{r:RC}{c:zL}{d:r.den}(h:mV h0 r c=some d):∀id∈vL [r] [c],∀own cells,h0 id≠some (.box own cells):=by
  unfold mV at h
  split at h
  all_goals (try (intro id ah;simp[vL] at ah;done))
  all_goals first
    |(cases h;done)
    | (intro uq ah own cells hb
       have:=List.mem_singleton.1 ah
       subst this
       rw[hb] at h
       cases h)
    |(cases h;intro uq ah;simp[vL] at ah)
theorem yW5 {L:Hp}:∀{l:List RC} {cs:List zL} {d:RL l},jc L l cs=some d→∀id∈vL l cs,∀own cells,L id≠some (.box own cells)
 |[],[],_,_,id,ah=>by cases ah
 |r::l,c::cs,d,h,id,ah=>by
  unfold jc at h
  split at h
  ·rename_i x xs e1 e2
   rw[Ij] at ah
   rcases List.mem_append.1 ah with ah|ah
   ·exact vK6 e1 id ah
   ·exact yW5 e2 id ah
  ·cases h
 |[],_::_,_,h,_,_=>by cases h
 |_::_,[],_,h,_,_=>by cases h
theorem PN:∀(a b:List (Bool×Nat)),vT (a++b)=vT a++vT b
 |[],_=>rfl
 |(true,_)::a,b=>by simp[vT,PN a b]
 |(false,_)::a,b=>by simp[vT,PN a b]
theorem Iy {h:Hp}:∀{ls:List (Bool×List XC)} {is:List Nat} {cs:List zL} {bs:List (Bool×Nat)},mX h ls is=some (cs,bs)→∀id∈vT bs,∃o,h id=some o∧o.owned=true
 |[],[],_,_,e=>by cases e;intro id ah;cases ah
 |(io,l)::ls,i::is,cs,bs,e=>by
  unfold mX at e
  split at e
  ·rename_i cells rest Is h1 h2
   obtain⟨_,e⟩:=vX e
   cases e
   intro id ah
   cases io with
   |false=>exact Iy h2 id ah
   |true=>
    rcases List.mem_cons.1 ah with rfl|ah
    ·unfold Ir at h1
     split at h1
     ·rename_i c hc
      exact⟨_,hc,rfl⟩
     ·rename_i e' _;cases e'
     ·rename_i e' _;cases e'
     ·cases h1
    ·exact Iy h2 id ah
  ·cases e
 |[],_::_,_,_,e=>by cases e
 |_::_,[],_,_,e=>by cases e
theorem vTd {h:Hp}{s:AX}{a:zI}{cs:List zL}{bs:List (Bool×Nat)}(e:s.get h a=some (cs,bs)):∀id∈vT bs,∃o,h id=some o∧o.owned=true:=by
 unfold AX.get at e
 split at e
 ·cases e;intro id ah;cases ah
 ·obtain⟨_,e⟩:=vX e
  cases e;intro id ah;cases ah
 ·exact Iy e
 ·obtain⟨_,e⟩:=vX e
  exact Iy e
 ·cases e
theorem yEa {h:Hp}:∀{l:List AX} {as:List zI} {cs:List zL} {bs:List (Bool×Nat)},j5 h l as=some (cs,bs)→l.length=as.length∧∀id∈vT bs,∃o,h id=some o∧o.owned=true
 |[],[],_,_,e=>by cases e;exact⟨rfl,fun id ah=>by cases ah⟩
 |s::l,a::as,cs,bs,e=>by
  unfold j5 at e
  split at e
  ·rename_i c1 b1 c2 b2 h1 h2
   cases e
   obtain⟨k1,k2⟩:=yEa h2
   refine⟨by simp[k1],fun id ah=>?_⟩
   rw[PN] at ah
   rcases List.mem_append.1 ah with ah|ah
   ·exact vTd h1 id ah
   ·exact k2 id ah
  ·cases e
 |[],_::_,_,_,e=>by cases e
 |_::_,[],_,_,e=>by cases e
theorem yCa {h:Hp}:∀{l:List XC} {cs:List zL} {d:XL l},mY h l cs=some d→∀id∈wV l cs,∃o,h id=some o∧o.owned=true
 |[],[],_,_=>fun id ah=>by cases ah
 |x::l,c::cs,d,e=>by
  unfold mY at e
  split at e
  ·rename_i y ys h1 h2
   cases e
   have ih:=yCa h2
   unfold Ed at h1
   split at h1
   ·exact ih
   ·rename_i t id
    intro jd ah
    rcases List.mem_cons.1 ah with rfl|ah
    ·split at h1
     ·rename_i s xs hs
      exact⟨_,hs,rfl⟩
     ·cases h1
    ·exact ih jd ah
   ·rename_i id
    intro jd ah
    rcases List.mem_cons.1 ah with rfl|ah
    ·split at h1
     ·rename_i s xs hs
      exact⟨_,hs,rfl⟩
     ·cases h1
    ·exact ih jd ah
   ·rename_i id
    intro jd ah
    rcases List.mem_cons.1 ah with rfl|ah
    ·split at h1
     ·rename_i xs hs
      exact⟨_,hs,rfl⟩
     ·cases h1
    ·exact ih jd ah
   ·cases h1
  ·cases e
 |[],_::_,_,e=>by cases e
 |_::_,[],_,e=>by cases e
theorem yTc {a b:List Nat}(h:PG a b=true):∀id∈b,id∉a:=fun id hb ha=>by
 have h:=List.all_eq_true.1 h id ha
 have:b.any (Nat.beq id)=true:=List.any_eq_true.2 ⟨id,hb,by simp⟩
 rw[this] at h;cases h
theorem yIo:∀(os:List (List RC)) (cs:List zL),(sr os cs).length=os.length
 |[],_=>rfl
 |_::os,cs=>by simp[sr,yIo os]
theorem qYh {M L:zC}{P:zC→Nat→Prop}{R:Nat→List zL→Nat→Prop}:∀{ids js:List Nat} {css:List (List zL)} {Bs:List Nat},zQ (sv M L) ids js→kJ R js css Bs→kJ (fun id cs B=>∃jd,sv M L id jd∧R jd cs B) ids css Bs
 |[],[],[],[],_,_=>trivial
 |_::_,_::_,_::_,_::_,h,k=>⟨⟨_,h.1,k.1⟩,qYh (P:=P) h.2 k.2⟩
 |[],[],[],_::_,_,k=>k.elim
 |[],[],_::_,_,_,k=>by cases k
 |[],_::_,_,_,h,_=>h.elim
 |_::_,[],_,_,h,_=>h.elim
 |_::_,_::_,[],_,_,k=>k.elim
 |_::_,_::_,_::_,[],_,k=>k.elim
theorem yNn {P:Program}{na:Nat}{f:FuncId}(dH:∀vs w,(callFunc f vs).run P w=.ok (.enter f vs) w)
  {as:List AX} {rs:RS} {os:List (List RC)} {X:Type} {S:XD as→Option X} {pack:X→RL (rs.cells++os.flatten)} {unpack:RL (rs.cells++os.flatten)→X} (gE:∀d,pack (unpack d)=d) (uP:Iq as na=true)
  (uQ:∀d x,S d=some x→∀(M:zC) (w:World) (vs:Array Value),M.h=(pF as d).2→M.H=w.heap→Ok M→zQ (qA M) (pF as d).1 vs.toList→Calls P f vs w fun
   |.returned rv,w'=>∃(M':zC) (v:zI) (st:St),Ej as rs os unpack v st=some x∧M'.h=st.h∧M'.H=w'.heap∧Ok M'∧gC M M'∧qA M' v rv∧w'.os=w.os∧w'.tape=w.tape∧w'.output=w.output∧
     (∀t,t<na→qA M' (st.t t) (vs.getD t undef))
   |_,_=>False)
  {nm:Nat} {args:List zI} {h:Hp} {v:zI} {u:qH} (hy:yN (om as rs os S pack nm args h) v u):um P f args h v u:=by
 intro M w vs hh hH ok hv
 refine .inl ⟨dH vs w,?_⟩
 unfold om at hy
 split at hy
 ·exact hy.elim
 rename_i eE u0 uG
 split at hy
 ·exact hy.elim
 rename_i cs bs dE
 split at hy
 ·exact hy.elim
 rename_i d hd
 dsimp only at hy
 obtain⟨hc,hy⟩:=rV hy
 simp only[Bool.and_eq_true] at hc
 obtain⟨⟨⟨⟨⟨nb,cz⟩,cO⟩,dW⟩,gF⟩,yr⟩:=hc
 obtain⟨x,hx,rfl,rfl⟩:=hy
 subst hh
 obtain⟨M1,a1,a2,a3,a4,a5,a6⟩:=yRw ok (wN.refl _) hv uG
 rw[←a2] at hd dE
 obtain⟨aac,nY⟩:=yEa dE
 have aP:=yCa hd
 have eW:lD M1 (vT bs++wV (as.flatMap AX.cells) cs):=fun id ah=>(List.mem_append.1 ah).elim (nY id) (aP id)
 have PO:=yc dW
 obtain⟨Ml,lo,b2,b3,b4,b5,b6⟩:=vL8 a3 a5 dE hd PO (yTc gF) (yTc yr) (Nat.le_of_ble_eq_true cO) eW
 generalize gd:vT bs++wV (as.flatMap AX.cells) cs=au at*
 refine Calls.mono (uQ d x hx Ml w vs b2 (by rw[lo.H,a1];exact hH) b3 b5) fun e w' he=>?_
 cases e with
 |panicked _=>exact he.elim
 |outgrown=>exact he.elim
 |returned rv=>
  obtain⟨L0,v0,st,hK,c1,c2,c3,c4,c5,c6,c7,c8,c9⟩:=he
  have hK:Iv st as rs os v0=some (pack x):=by
   unfold Ej at hK
   split at hK
   ·rename_i d' jy
    cases hK
    rw[jy,gE]
   ·cases hK
  unfold Iv at hK
  split at hK
  ·cases hK
  rename_i ids lz
  split at hK
  case h_2=>cases hK
  rename_i ccs bcs lC uR
  obtain⟨nc,hK⟩:=vX hK
  split at hK
  case h_2=>cases hK
  rename_i aR u1 uI
  obtain⟨dB,hK⟩:=vX hK
  obtain⟨hlen,us,d1,d2⟩:=Z7 lC c5
  rw[←c1] at uI hK uR
  obtain⟨k1,k2,Iz,k3,k4⟩:=qZz c3 uR
  obtain⟨L,e1,e2,e3,e4,e5,e6⟩:=si c3 (wN.refl _) (d1.append k3) uI
  rw[←e2] at hK
  have g:gC Ml L:=c4.trans e4.grow
  obtain⟨f1,f2,f3⟩:=zC.overX_ok a3 e3 lo eW b4 g
  have cg:zQ (sv M1 L0) (vT bs) ids:=qXc dE lz a5 fun i hi s hs yt=>by
   have bM:i<vs.size:=by simpa using hi
   have hl:=a5.length
   have aU:i<na:=by
    have:=List.all_eq_true.1 uP (s,i) (List.mk_mem_zipIdx_iff_getElem?.2 hs)
    simp only[yt,Bool.not_true,Bool.false_or] at this
    exact HH this
   have:=c9 i aU
   rw[Nat.zero_add]
   have e:vs.getD i undef=vs.toList[i]:=by simp[bM]
   rw[←e];exact this
  have mW:∀i,i<(rs.cells++os.flatten).length→(M1.overX L au).h (nm+i)=none:=fun i hi=>by
   have h1:=Pp nb i hi
   have h2:M1.h (nm+i)=none:=by
    rw[a2]
    rcases a6 (nm+i) with h|⟨own,t,xs,h,_⟩|⟨ver,xs,h,_⟩
    ·rw[a2] at h;rw[h];exact h1
    ·rw[h1] at h;cases h
    ·rw[h1] at h;cases h
   show qP M1.h (mZ au) (nm+i)=none
   rw[uO,if_neg,h2]
   intro nf
   obtain⟨o,ho,_⟩:=eW _ nf
   rw[h2] at ho;cases ho
  have uS:∀b,qU L b→b<M1.H.size→jg M1 au b:=fun b hb aU=>b4 b (g.own b hb (by rw[lo.H];exact aU))
  have sw:∀b,qU L b→¬(M1.overX L au).F b:=fun b hb h=>by
   rcases h with h|h
   ·exact(pG a3 eW h).2 (uS b hb (a3.Flt b h))
   ·exact(e3.own b hb).1 (e3.GF b h)
  have sx:∀b,qU L b→¬qU (M1.overX L au) b:=fun b hb h=>by
   obtain⟨q1,q2⟩:=f3 b h
   exact q2 (uS b hb (a3.own b q1).2)
  obtain ⟨Mc, g1, g2, g3, g4, g5, g6, g7, g8⟩ := Pq e3 f1 ⟨rfl, rfl⟩ mW hK (yc dB) (sk hK) (fun id ah C hC b hb=>by
   obtain⟨o,ho,fZ⟩:=sk hK id ah
   have aM:qU L b:=⟨id,o,C,ho,fZ,hC,hb⟩
   exact⟨sx b aM,sw b aM,(e3.own b aM).2⟩)
  have Eo:=g8 _ e5
  have rP:us.length=rs.cells.length:=by rw[←d1.length,hlen]
  have hgr:zQ (zZ Mc) ((lB nm (rs.cells++os.flatten) (pack x)).1.take rs.cells.length) us:=by
   have:=zQ.take rs.cells.length Eo
   rwa [show(us++Iz).take rs.cells.length=us from by rw[←rP,List.take_left]] at this
  have PQ:zQ (zZ Mc) ((lB nm (rs.cells++os.flatten) (pack x)).1.drop rs.cells.length) Iz:=by
   have:=zQ.drop rs.cells.length Eo
   rwa [show(us++Iz).drop rs.cells.length=Iz from by rw[←rP,List.drop_left]] at this
  have hHc:Mc.H=L0.H:=by rw[g1];exact e1
  have ng:=qYh (P:=fun _ _=>True) cg (k4 hHc PQ)
  have mO:∀id jd B,sv M1 L0 id jd→(∃C,L0.κ jd=some C∧C.blk=some B∧C.rows=[])→∃C,M1.κ id=some C∧C.blk=some B:=fun id jd B ⟨C,D,B',q1,q2,q3,q4⟩ ⟨D',q5,q6,_⟩=>by
   rw[q3] at q5;cases q5
   rw[q4] at q6;cases q6
   exact⟨C,q1,q2⟩
  have Ep:∀jd B,(∃cells,L0.h jd=some (.box true cells))→(∃C,L0.κ jd=some C∧C.blk=some B∧C.rows=[])→∃cells C,L.h jd=some (.box true cells)∧L.κ jd=some C∧B∈C.fp:=fun jd B ⟨cells,q1⟩ ⟨C,q2,q3,_⟩=>by
   obtain⟨C',q4,le⟩:=e4.ext.κ jd C q2
   refine⟨cells,C',?_,q4,?_⟩
   ·rcases e6 jd with h|⟨own,t,xs,h,_⟩|⟨ver,xs,h,_⟩
    ·rw[h,q1]
    ·rw[q1] at h;cases h
    ·rw[q1] at h;cases h
   ·have:C'.blk=some B:=le.blk.trans q3
    simp[zT.fp,this]
  have nh : kJ (yUu Mc) (vT bs) (sr os ((lB nm (rs.cells ++ os.flatten) (pack x)).1.drop rs.cells.length)) (ids.map fun id => ((L0.κ id).bind zT.blk).getD 0) := kJ.mono (fun id css B _ ⟨jd,q1,q2,q3,q4⟩=>by
   obtain⟨C,p1,p2⟩:=mO id jd B q1 q3
   obtain⟨C',p3,le⟩:=(f2.ext.trans f2.size g6).κ id C p1
   obtain⟨cells,D,p4,p5,p6⟩:=Ep jd B q2 q3
   have aM:qU L B:=⟨jd,_,D,p4,rfl,p5,p6⟩
   refine⟨⟨C',p3,le.blk.trans p2⟩,q4,fun ho=>?_,?_⟩
   ·rcases g7 B ho with h|⟨kd,IA,D',p7,p8⟩
    ·exact sx B aM h
    ·obtain⟨o,p9,pH⟩:=sk hK kd IA
     refine e3.disj jd kd _ o D D' B (fun e=>?_) p4 p9 rfl pH p5 p7 p6 p8
     exact yW5 hK kd IA true cells (by rw[←e];exact p4)
   ·rw[g3];exact sw B aM) ng
  have hBs:(ids.map fun id=>((L0.κ id).bind zT.blk).getD 0).Nodup:=by
   have nc:=yc nc
   have cM:∀{js:List Nat} {css:List (List zL)} {Bs:List Nat},kJ (fun id cs B=>(∃cells,L0.h id=some (.box true cells))∧(∃C,L0.κ id=some C∧C.blk=some B∧C.rows=[])∧∃vals e,Mc.H[B]? =some (.cells vals e (0,0))∧zQ (zZ Mc) cs vals.toList) js css Bs→
     (∀j,j∈js→(∃cells,L0.h j=some (.box true cells))∧∃C B,L0.κ j=some C∧C.blk=some B):=by
    intro js
    induction js with
    |nil=>intro css Bs _ j hj;cases hj
    |cons a js ih=>
     intro css Bs hb j hj
     cases css with
     |nil=>exact hb.elim
     |cons c css=>
      cases Bs with
      |nil=>exact hb.elim
      |cons B Bs=>
       rcases List.mem_cons.1 hj with rfl|hj
       ·obtain⟨q1,⟨C,q2,q3,_⟩,_⟩:=hb.1
        exact⟨q1,C,B,q2,q3⟩
       ·exact ih hb.2 j hj
   have bh:=cM (k4 hHc PQ)
   clear ng nh k4 cM PQ cg uR k2 lz
   revert nc bh
   generalize ids=js
   intro nc bh
   induction js with
   |nil=>exact List.nodup_nil
   |cons a js ih=>
    obtain⟨n1,n2⟩:=List.nodup_cons.1 nc
    refine List.nodup_cons.2 ⟨fun nf=>?_,ih n2 fun j hj=>bh j (List.mem_cons_of_mem _ hj)⟩
    obtain⟨j,hj,pI⟩:=List.mem_map.1 nf
    obtain⟨⟨c1',q1⟩,C,B,q2,q3⟩:=bh a (List.mem_cons_self ..)
    obtain⟨⟨c2',q4⟩,D,B',q5,q6⟩:=bh j (List.mem_cons_of_mem _ hj)
    have pI:((L0.κ j).bind zT.blk).getD 0=((L0.κ a).bind zT.blk).getD 0:=pI
    rw[q2,q5] at pI
    have pI:(D.blk.getD 0)=(C.blk.getD 0):=pI
    rw[q3,q6] at pI
    have pI:B'=B:=pI
    subst pI
    exact c3.disj a j _ _ C D B' (fun e=>n1 (by rw[e];exact hj)) q1 q4 rfl rfl q2 q5 (by simp[zT.fp,q3]) (by simp[zT.fp,q6])
  obtain⟨Mf,r1,r2,r3,r4,r5,r6,r7⟩:=yW4 g5 nh hBs
  have uT:∀b,b∈(ids.map fun id=>((L0.κ id).bind zT.blk).getD 0)→qU M1 b:=by
   have:∀{is:List Nat} {css:List (List zL)} {Bs:List Nat},(∀id∈is,id∈vT bs)→kJ (fun id cs B=>∃jd,sv M1 L0 id jd∧(∃cells,L0.h jd=some (.box true cells))∧(∃C,L0.κ jd=some C∧C.blk=some B∧C.rows=[])∧∃vals e,Mc.H[B]? =some (.cells vals e (0,0))∧zQ (zZ Mc) cs vals.toList) is css Bs→∀b∈Bs,qU M1 b:=by
    intro is
    induction is with
    |nil=>
     intro css Bs _ hb b Er
     cases css with
     |nil=>cases Bs with
      |nil=>cases Er
      |cons _ _=>exact hb.elim
     |cons _ _=>exact hb.elim
    |cons a is ih=>
     intro css Bs nf hb b Er
     cases css with
     |nil=>exact hb.elim
     |cons c css=>
      cases Bs with
      |nil=>exact hb.elim
      |cons B Bs=>
       rcases List.mem_cons.1 Er with rfl|Er
       ·obtain⟨jd,q1,q2,q3,_⟩:=hb.1
        obtain⟨C,p1,p2⟩:=mO a jd b q1 q3
        obtain⟨o,p3,p4⟩:=nY a (nf a (List.mem_cons_self ..))
        exact⟨a,o,C,p3,p4,p1,by simp[zT.fp,p2]⟩
       ·exact ih (fun id ah=>nf id (List.mem_cons_of_mem _ ah)) hb.2 b Er
   exact this (fun _ h=>h) ng
  have Pv:yY M1 Mf:=by
   have aM:∀b,qU Mf b→b<M1.H.size→qU M1 b:=fun b hb aU=>by
    rcases r7 b hb with hb|hb
    ·rcases g7 b hb with h|⟨id,ah,C,hC,yl⟩
     ·exact(f3 b h).1
     ·obtain⟨o,ho,fZ⟩:=sk hK id ah
      exact(uS b ⟨id,o,C,ho,fZ,hC,yl⟩ aU).own eW
    ·exact uT b hb
   have Ik:Mf.H=(M1.overX L au).H:=r1.trans g1
   refine⟨(f2.ext.trans f2.size g6).trans ?_ r6,?_,fun b hb hn=>?_,aM,fun b hb aU=>?_,fun b hb aU=>?_⟩
   ·rw[g1];exact f2.size
   ·rw[Ik];exact f2.size
   ·rw[Ik];exact f2.frame b hb hn
   ·rw[r2,g2] at hb;exact f2.Gb b hb aU
   ·rw[r3,g3] at hb;exact f2.Fb b hb aU
  refine⟨Mf,⟨c6,c7,c8,?_,?_,r5,a4.trans Pv⟩,?_⟩
  ·rw[r1,g1];show L.H=_;rw[e1,c2]
  ·rw[r4,g4]
   show qP (qP (qP M1.h (mZ au)) (lB nm (rs.cells++os.flatten) (pack x)).2) (uL (vT bs) (sr os ((lB nm (rs.cells++os.flatten) (pack x)).1.drop rs.cells.length)))=qP M.h (u0++(mZ (wV (as.flatMap AX.cells) cs)++((lB nm (rs.cells++os.flatten) (pack x)).2++uL (vT bs) (sr os ((lB nm (rs.cells++os.flatten) (pack x)).1.drop rs.cells.length)))))
   rw[jt,jt,jt,←a2]
   refine qYu (by rw[yIo,cg.length,k2]) fun n hn=>ux ?_
   rw[uO,uO,←gd]
   simp[hn]
  ·exact d2 Mf _ (hgr.mono fun _ _ h=>h.ext r6)
theorem vP2 {E:qB}(hE:ga E)(hS:jb E.sums)(hm:E.P.follows .mixedOrders=true){A:zY}{k pre na:Nat}{f:FuncId}{fn:Func}(hf:E.P.funcs[f]? =some fn)(hL:∀c,fn.body=some c→wX E.P A pre na fn.ntmps c)(dH:∀vs w,(callFunc f vs).run E.P w=.ok (.enter f vs) w)
  {as:List AX} {rs:RS} {os:List (List RC)} {X:Type} {S:XD as→Option X} {pack:X→RL (rs.cells++os.flatten)} {unpack:RL (rs.cells++os.flatten)→X} (gE:∀d,pack (unpack d)=d) (uP:Iq as na=true)
  (ba:∀d,kz E A k pre na fn (pF as d).1 (pF as d).2 (Ej as rs os unpack)=S d)
  {nm:Nat} {args:List zI} {h:Hp} {v:zI} {u:qH} (hy:yN (om as rs os S pack nm args h) v u):um E.P f args h v u:=
 yNn dH gE uP (fun d x hx M w vs h1 h2 h3 h4=>Ph hE hS hm hf hL ((ba d).trans hx) h1 h2 h3 h4) hy
section
variable {h h':Hp}
theorem yZ5 {x:XC}{c:zL}(hh:∀id∈vD c,h id=h' id):Ed h x c=Ed h' x c:=by
 unfold Ed
 split
 ·exact yOv hh
 ·rename_i id;rw[hh id (by simp[vD])]
 ·rename_i id;rw[hh id (by simp[vD])]
 ·rename_i id;rw[hh id (by simp[vD])]
 ·rfl
theorem yFc:∀{l:List XC} {cs:List zL},(∀id∈cs.flatMap vD,h id=h' id)→mY h l cs=mY h' l cs
 |[],[],_=>rfl
 |[],_::_,_=>rfl
 |_::_,[],_=>rfl
 |p::l,c::cs,hh=>by
  simp only[List.flatMap_cons,List.mem_append] at hh
  unfold mY
  rw[yZ5 fun id hi=>hh id (.inl hi),yFc fun id hi=>hh id (.inr hi)]
theorem vLw {ls:List (Bool×List XC)}:mX h ls []=mX h' ls []:=by
 cases ls<;>rfl
theorem vGj {s:AX}{a:zI}(hb:vK a=false):s.get h a=s.get h' a:=by
 unfold AX.get
 cases s with
 |c p=>cases a<;>rfl
 |agg l=>cases a<;>rfl
 |ptr io l=>
  cases a with
  |c x=>cases x<;>first|rfl|(exact absurd hb (by simp[vK]))
  |_=>rfl
 |fn f bD=>
  cases a with
  |c x=>cases x with
   |fn g ids=>
    cases ids with
    |nil=>dsimp only;rw[vLw]
    |cons _ _=>exact absurd hb (by simp[vK])
   |_=>rfl
  |_=>rfl
theorem vQj {s:AX}{a:zI}{cs:List zL}{bs:List (Bool×Nat)}(hb:vK a=false)(e:s.get h a=some (cs,bs)):∀id∈cs.flatMap vD,id∈yP a:=by
 unfold AX.get at e
 split at e
 ·cases e;intro id ah;simp only[List.flatMap_cons,List.flatMap_nil,List.append_nil] at ah;exact ah
 ·obtain⟨_,e⟩:=vX e
  cases e;exact fun id ah=>ah
 ·exact absurd hb (by simp[vK])
 ·rename_i f bD g ids
  obtain⟨_,e⟩:=vX e
  cases ids with
  |nil=>cases bD with
   |nil=>cases e;intro id ah;simp at ah
   |cons _ _=>cases e
  |cons _ _=>exact absurd hb (by simp[vK])
 ·cases e
theorem yWf:∀{l:List AX} {as:List zI},as.any vK=false→j5 h l as=j5 h' l as
 |[],[],_=>rfl
 |[],_::_,_=>rfl
 |_::_,[],_=>rfl
 |s::l,a::as,hb=>by
  simp only[List.any_cons,Bool.or_eq_false_iff] at hb
  unfold j5
  rw[vGj (h:=h) (h':=h') hb.1,yWf hb.2]
theorem yIy:∀{l:List AX} {as:List zI} {cs:List zL} {bs:List (Bool×Nat)},as.any vK=false→j5 h l as=some (cs,bs)→∀id∈cs.flatMap vD,id∈as.flatMap yP
 |[],[],cs,bs,_,e=>by cases e;intro id ah;simp at ah
 |[],_::_,_,_,_,e=>by cases e
 |_::_,[],_,_,_,e=>by cases e
 |s::l,a::as,cs,bs,hb,e=>by
  simp only[List.any_cons,Bool.or_eq_false_iff] at hb
  unfold j5 at e
  split at e
  ·rename_i c1 b1 c2 b2 e1 e2
   cases e
   intro id ah
   rw[List.flatMap_append,List.mem_append] at ah
   rw[List.flatMap_cons,List.mem_append]
   rcases ah with ah|ah
   ·exact .inl (vQj hb.1 e1 id ah)
   ·exact .inr (yIy hb.2 e2 id ah)
  ·cases e
theorem vA9 {s:AX}{a:zI}(hh:∀id∈yP a,h id=h' id):ss h s a=ss h' s a:=by
 unfold ss
 split
 ·rename_i p x
  have:=yn (h:=h) (h':=h') (l:=[p.isKept]) (cs:=[x]) (by rw[ym];exact hh)
  simp only[this]
 ·rename_i l xs
  have:=yn (h:=h) (h':=h') (l:=l.map PC.isKept) (cs:=xs) hh
  simp only[this]
 ·rfl
theorem vI2 {s:AX}{a a':zI}{u:qH}(e:ss h s a=some (a',u)):(∀id∈yP a',id∈yP a)∧(vK a=false→vK a'=false):=by
 unfold ss at e
 split at e
 ·rename_i p x
  split at e
  ·rename_i y u1 e1
   cases e
   refine⟨fun id ah=>by have:=yo e1 id (by rw[ym];exact ah);rwa [ym] at this,fun hb=>?_⟩
   cases hk:p.isKept with
   |false=>rw[hk] at e1;cases e1;exact hb
   |true=>
    rw[hk] at e1
    unfold jY at e1
    split at e1
    ·rename_i c1 u2 kE nP e2 e3
     cases e3
     cases e1
     cases hy:vK (.c y) with
     |false=>rfl
     |true=>rw[(Pw e2).2 hy] at hb;cases hb
    ·cases e1
  ·cases e
 ·rename_i l xs
  split at e
  ·rename_i ys u1 e1
   cases e
   exact⟨yo e1,fun _=>rfl⟩
  ·cases e
 ·cases e;exact⟨fun _ h=>h,fun h=>h⟩
theorem yVb:∀{l:List AX} {as:List zI},(∀id∈as.flatMap yP,h id=h' id)→oh h l as=oh h' l as
 |[],as,_=>by cases as<;>rfl
 |_::_,[],_=>rfl
 |s::l,a::as,hh=>by
  simp only[List.flatMap_cons,List.mem_append] at hh
  unfold oh
  rw[vA9 fun id hi=>hh id (.inl hi),yVb fun id hi=>hh id (.inr hi)]
theorem qW5:∀{l:List AX} {as eH:List zI} {u:qH},oh h l as=some (eH,u)→(∀id∈eH.flatMap yP,id∈as.flatMap yP)∧(as.any vK=false→eH.any vK=false)
 |[],as,eH,u,e=>by cases as<;>cases e<;>exact⟨fun _ h=>h,fun h=>h⟩
 |s::l,[],eH,u,e=>by cases e;exact⟨fun _ h=>h,fun h=>h⟩
 |s::l,a::as,eH,u,e=>by
  unfold oh at e
  split at e
  ·rename_i a1 u1 Pt nP e1 e2
   cases e
   obtain⟨k1,k2⟩:=vI2 e1
   obtain⟨k3,k4⟩:=qW5 e2
   refine⟨fun id ah=>?_,fun hb=>?_⟩
   ·rw[List.flatMap_cons,List.mem_append] at ah⊢
    exact ah.imp (k1 id) (k3 id)
   ·simp only[List.any_cons,Bool.or_eq_false_iff] at hb⊢
    exact⟨k2 hb.1,k4 hb.2⟩
  ·cases e
end
theorem yDu {as:List AX}{rs:RS}{os:List (List RC)}{X:Type}{S:Nat→XD as→Option X}{pack:X→RL (rs.cells++os.flatten)}:Il fun k nm args h=>om as rs os (S k) pack nm args h:=by
 intro k nm args h h' h1 h2
 cases hb:args.any vK with
 |true=>rw[h2 hb]
 |false=>
  have hh:=h1 hb
  show om as rs os (S k) pack nm args h=om as rs os (S k) pack nm args h'
  unfold om
  rw[yVb (h:=h) (h':=h') fun id ah=>hh id (.inl ah)]
  cases e:oh h' as args with
  |none=>rfl
  |some p=>
   obtain⟨eE,u⟩:=p
   obtain⟨k1,k2⟩:=qW5 e
   dsimp only
   rw[yWf (h:=qP h u) (h':=qP h' u) (k2 hb)]
   cases e2:j5 (qP h' u) as eE with
   |none=>rfl
   |some q=>
    obtain⟨cs,bs⟩:=q
    dsimp only
    rw[yFc (h:=qP h u) (h':=qP h' u) fun id ah=>ux (hh id (.inl (k1 id (yIy (k2 hb) e2 id ah))))]
    cases mY (qP h' u) (as.flatMap AX.cells) cs with
    |none=>rfl
    |some d=>
     dsimp only
     cases hle:Nat.ble (rs.cells++os.flatten).length 100 with
     |false=>simp
     |true=>
      have hle:=Nat.le_of_ble_eq_true hle
      rw [Px (h := h) (h' := h') fun i hi => hh _ (.inr (by
       simp only[lY,Bool.and_eq_true]
       exact⟨Nat.ble_eq_true_of_le (by omega),by simp[Nat.blt_eq];omega⟩))]
structure zJ (P:Program) (r:Nat×zH):Prop where
 ok:yUd P r
 loc:Il r.2
def yu (P:Program):List (Nat×zH)→Prop
 |[]=>True
 |r::l=>zJ P r∧yu P l
theorem yu.all {P:Program}:∀{l:List (Nat×zH)},yu P l→∀r∈l,zJ P r
 |[],_,_,h=>by cases h
 |a::l,h,r,hr=>by
  rcases List.mem_cons.1 hr with rfl|hr
  ·exact h.1
  ·exact yu.all h.2 r hr
structure qI (E:qB):Prop where
 ok:ga E
 loc:jb E.sums
 ord:E.P.follows .mixedOrders=true
theorem yv {P:Program}{l:List (Nat×zH)}{eqT:TypeId→Bool}(he:Dx P eqT)(hm:P.follows .mixedOrders=true)(h:yu P l):qI ⟨P,eqT,qJ l⟩:=
 ⟨⟨he,yD8 fun r hr=>(h.all r hr).ok⟩,yA1 fun r hr=>(h.all r hr).loc,hm⟩
theorem zN {P:Program}{l:List (Nat×zH)}(hm:P.follows .mixedOrders=true)(h:yu P l):qI ⟨P,fun _=>false,qJ l⟩:=yv vLk hm h
theorem loops1 {P:Program}{A:zY}{pre na nt:Nat}{c:Code}{L:qE}(h:qD P pre na nt (zX c 0) L)(hn:(mi c).length=1:=by kernel_rfl) (hl:Dh A (zX c 0)=some L:=by kernel_rfl):wX P A pre na nt c:=
 oc hn fun i hi=>by
  obtain rfl:i=0:=by omega
  exact⟨L,hl,h⟩
theorem zK {P:Program}{A:zY}{pre na nt:Nat}{c:Code}(hn:(mi c).length=0:=by kernel_rfl):wX P A pre na nt c:=vPr hn
def yKv (E:qB)(A:zY)(na nt:Nat)(b:Code)(inS:zF)(outs:List (Ex×zF)){X Y:Type}(ky:lX outs→X)(c:Y→inS.den→Option X)(bf:Nat→Y→Y):Prop:=
 ∀k rec d,c (bf k rec) d=iy E A k 1000 na nt b (zS (1000+gu) inS d) (Yk 1000 inS outs ky (c rec))
abbrev vL2 (X:Type):=Nat→X→(R:Type)→(Ex→St→Option R)→Option R
theorem vRg {E:qB}{A:zY}{na nt:Nat}{b:Code}{inS:zF}{outs:List (Ex×zF)}{X Y:Type}{ky:lX outs→X}{c:Y→inS.den→Option X}{bf:Nat→Y→Y}(hE:qI E)(hs:yKv E A na nt b inS outs ky c bf)(f:Nat→Nat→Y)(elim:vL2 X)
  (hX:∀o R K,elim (1000+gu) (ky o) R K=xN (1000+gu) outs o K) (hL:wX E.P A 1000 na nt b) (h0:∀k d,c (f k 0) d=none:=by intros;rfl) (h1:∀k n,f k (n+1)=bf k (f k n):=by intros;rfl):
  qD E.P 1000 na nt b ⟨inS,outs,X,fun k d=>c (f k k) d,elim⟩:=
 vHo hE.ok hE.loc hE.ord hL ky elim hX (fun k n d=>c (f k n) d) h0 (fun k n d=>by rw[h1];exact hs k (f k n) d)
def PR (E:qB)(A:zY)(na:Nat)(fn:Func)(as:List AS)(rs:RS){X:Type}(up:RL rs.cells→X)(S:Nat→AD as→Option X):Prop:=
 ∀k d,kz E A k 1000 na fn (mU as d).1 (mU as d).2 (kH rs up)=S k d
def yN9 (E:qB)(A:zY)(na:Nat)(fn:Func)(as:List AX)(rs:RS)(os:List (List RC)){X:Type}(up:RL (rs.cells++os.flatten)→X)(S:Nat→XD as→Option X):Prop:=
 ∀k d,kz E A k 1000 na fn (pF as d).1 (pF as d).2 (Ej as rs os up)=S k d
theorem vBw {E:qB}{A:zY}{na f:Nat}{fn:Func}{as:List AS}{rs:RS}{X:Type}{S:Nat→AD as→Option X}{pack:X→RL rs.cells}{unpack:RL rs.cells→X}(hE:qI E)(ba:PR E A na fn as rs unpack S)(hL:wX E.P A 1000 na fn.ntmps (qC fn))
  (hf:E.P.funcs[f]? =some fn:=by kernel_rfl) (hb:fn.body.isNone=false:=by kernel_rfl) (hn:(fn.name== "runtime.NumGoroutine")=false:=by kernel_rfl) (gE:∀d,pack (unpack d)=d:=by intro d;rfl):
  zJ E.P (f,fun k nm args h=>mh as rs (S k) pack nm args h):=
 ⟨fun k _ _ _ _ _ hy=>yYp hE.ok hE.loc hE.ord hf (body_loops hL) (Im hf hb hn) gE (ba k) hy,yNh⟩
theorem vAp {E:qB}{A:zY}{na f:Nat}{fn:Func}{as:List AX}{rs:RS}{os:List (List RC)}{X:Type}{S:Nat→XD as→Option X}{pack:X→RL (rs.cells++os.flatten)}{unpack:RL (rs.cells++os.flatten)→X}(hE:qI E)(ba:yN9 E A na fn as rs os unpack S)
  (hL:wX E.P A 1000 na fn.ntmps (qC fn)) (hf:E.P.funcs[f]? =some fn:=by kernel_rfl) (hb:fn.body.isNone=false:=by kernel_rfl) (hn:(fn.name== "runtime.NumGoroutine")=false:=by kernel_rfl) (uP:Iq as na=true:=by kernel_rfl) (gE:∀d,pack (unpack d)=d:=by intro d;rfl):
  zJ E.P (f,fun k nm args h=>om as rs os (S k) pack nm args h):=
 ⟨fun k _ _ _ _ _ hy=>vP2 hE.ok hE.loc hE.ord hf (body_loops hL) (Im hf hb hn) gE uP (ba k) hy,yDu⟩
theorem yZl {E:qB}{A:zY}{na f:Nat}{fn:Func}{sh:Bool}{t:Ty}{rs:RS}{X:Type}{S:Nat→List t.den→Option X}{pack:X→RL rs.cells}{unpack:RL rs.cells→X}(hE:qI E)(cf:∀k,kz E A k 1000 na fn [.c .nsl] (j3 []) (kH rs unpack)=S k [])
  (ba:∀k xs,kz E A k 1000 na fn [.c (.nfl sh t xs)] (j3 []) (kH rs unpack)=S k xs) (hL:wX E.P A 1000 na fn.ntmps (qC fn)) (hf:E.P.funcs[f]? =some fn:=by kernel_rfl) (hb:fn.body.isNone=false:=by kernel_rfl) (hn:(fn.name== "runtime.NumGoroutine")=false:=by kernel_rfl) (gE:∀d,pack (unpack d)=d:=by intro d;rfl):
  zJ E.P (f,fun k nm args h=>mh [.c (.dat sh t)] rs (fun d=>S k d.1) pack nm args h):=
 ⟨fun k _ _ _ _ _ hy=>vAo hE.ok hE.loc hE.ord hf (body_loops hL) (Im hf hb hn) gE (fun x hx=>(cf k).trans hx) (fun xs x hx=>(ba k xs).trans hx) hy,yNh⟩
def uU (k:Nat)(a b c:Int):Option (Int×Int):=
 bif decide (c=0) then some (Int.ofNat ((a.toNat+b.toNat+0)%18446744073709551616),Int.ofNat ((a.toNat+b.toNat+0)/18446744073709551616)) else none
def IB:zH:=fun k nm args h=>match args with
 |[.c (.int .u64 a),.c (.int .u64 b),.c (.int .u64 c)]=>.call (Int×Int) (uU k a b c) (fun r=>(.tup [(false,[.int .u64 r.1]),(false,[.int .u64 r.2])],[]))
 |_=>.stuck
theorem vCl {P:Program}(a b:Int)(w:World):
  (add64Entry #[.int .u64 a,.int .u64 b,.int .u64 0]).run P w=.ok (.tuple #[.int .u64 (Int.ofNat ((a.toNat+b.toNat+0)%18446744073709551616)),.int .u64 (Int.ofNat ((a.toNat+b.toNat+0)/18446744073709551616))]) w:=rfl
theorem vG5 {P:Program}{f:Nat}{fn:Func}(hf:P.funcs[f]? =some fn:=by kernel_rfl) (ni:(fn.name== "runtime.NumGoroutine")=false:=by kernel_rfl) (hb:fn.body.isNone=true:=by kernel_rfl)
  (hn:Extern.findNext fn=none:=by kernel_rfl) (he:Extern.find fn=some add64Entry:=by kernel_rfl):
  zJ P (f,IB):=by
 refine⟨fun k nm args h v u hy=>?_,fun _ _ _ _ _ _ _=>rfl⟩
 intro M w vs hh hH ok hv
 refine .inr ?_
 replace hy:yN (IB k nm args h) v u:=hy
 unfold IB at hy
 split at hy
 ·rename_i a b c
  obtain⟨x,hx,rfl,rfl⟩:=hy
  match hl:vs.toList,hv with
  |[v1,v2,v3],hv=>
   obtain⟨h1,h2,h3,_⟩:=hv
   cases h1;cases h2;cases h3
   obtain rfl:vs=#[.int .u64 a,.int .u64 b,.int .u64 c]:=by cases vs;simpa using hl
   unfold uU at hx
   obtain⟨hc,hx⟩:=vX hx
   cases hx
   have hc:c=0:=by simpa using hc
   subst hc
   refine⟨.tuple #[.int .u64 (Int.ofNat ((a.toNat+b.toNat+0)%18446744073709551616)),.int .u64 (Int.ofNat ((a.toNat+b.toNat+0)/18446744073709551616))],w,M,?_,⟨rfl,rfl,rfl,hH,rfl,ok,.refl M⟩,?_⟩
   ·rw[run_callFunc_extern hf ni hb hn he,vCl a b w]
    rfl
   ·exact⟨#[.int .u64 (Int.ofNat ((a.toNat+b.toNat+0)%18446744073709551616)),.int .u64 (Int.ofNat ((a.toNat+b.toNat+0)/18446744073709551616))],rfl,rfl,rfl,trivial⟩
 ·exact hy.elim
def zP (f:Nat)(as:List AS)(rs:RS){X:Type}(s:Nat→AD as→Option X)(pk:X→RL rs.cells):Nat×zH:=(f,fun k nm args h=>mh as rs (s k) pk nm args h)
def wC (f:Nat)(as:List AX)(rs:RS)(os:List (List RC)){X:Type}(s:Nat→XD as→Option X)(pk:X→RL (rs.cells++os.flatten)):Nat×zH:=(f,fun k nm args h=>om as rs os (s k) pk nm args h)
theorem fA {E:qB}(fn:Func)(A:zY){f:Nat}{as:List AS}{rs:RS}{X:Type}{s:Nat→AD as→Option X}{pk:X→RL rs.cells}(up:RL rs.cells→X)(hE:qI E)(hL:wX E.P A 1000 0 fn.ntmps (qC fn))
  (ba:PR E A 0 fn as rs up s:=by intro k d;kernel_rfl)
  (hf:E.P.funcs[f]? =some fn:=by kernel_rfl) (hb:fn.body.isNone=false:=by kernel_rfl) (hn:(fn.name== "runtime.NumGoroutine")=false:=by kernel_rfl) (gE:∀d,pk (up d)=d:=by intro d;rfl):
  zJ E.P (zP f as rs s pk):=vBw hE ba hL hf hb hn gE
theorem fX {E:qB}(fn:Func)(A:zY)(na:Nat){f:Nat}{as:List AX}{rs:RS}{os:List (List RC)}{X:Type}{s:Nat→XD as→Option X}{pk:X→RL (rs.cells++os.flatten)}(up:RL (rs.cells++os.flatten)→X)(hE:qI E)(hL:wX E.P A 1000 na fn.ntmps (qC fn))
  (ba:yN9 E A na fn as rs os up s:=by intro k d;kernel_rfl)
  (hf:E.P.funcs[f]? =some fn:=by kernel_rfl) (hb:fn.body.isNone=false:=by kernel_rfl) (hn:(fn.name== "runtime.NumGoroutine")=false:=by kernel_rfl) (uP:Iq as na=true:=by kernel_rfl) (gE:∀d,pk (up d)=d:=by intro d;rfl):
  zJ E.P (wC f as rs os s pk):=vAp hE ba hL hf hb hn uP gE
def uV (f:Nat)(sh:Bool)(t:Ty)(r:RC)(s:Nat→List t.den→Option r.den):Nat×zH:=
 (f,fun k nm args h=>mh [.c (.dat sh t)] (.c r) (fun d=>s k d.1) (fun x=>(x,())) nm args h)
theorem fC {E:qB}(fn:Func)(A:zY){f:Nat}{sh:Bool}{t:Ty}{r:RC}{s:Nat→List t.den→Option r.den}(hE:qI E)(hL:wX E.P A 1000 0 fn.ntmps (qC fn))
  (cf:∀k,kz E A k 1000 0 fn [.c .nsl] (j3 []) (kH (.c r) (fun d=>d.1))=s k []:=by intro k;kernel_rfl)
  (ba:∀k xs,kz E A k 1000 0 fn [.c (.nfl sh t xs)] (j3 []) (kH (.c r) (fun d=>d.1))=s k xs:=by intro k xs;kernel_rfl)
  (hf:E.P.funcs[f]? =some fn:=by kernel_rfl) (hb:fn.body.isNone=false:=by kernel_rfl) (hn:(fn.name== "runtime.NumGoroutine")=false:=by kernel_rfl):zJ E.P (uV f sh t r s):=
 yZl (rs:=.c r) (pack:=fun x=>(x,())) (unpack:=fun d=>d.1) hE cf ba hL hf hb hn
def vY {T:Type}(z:T)(b:T→T):Nat→T
 |0=>z
 |n+1=>b (vY z b n)
theorem lp {E:qB}{A:zY}{na nt:Nat}{b:Code}(L:qE){Y:Type}(ky:lX L.outs→L.X)(c:Y→L.inS.den→Option L.X)(f:Nat→Nat→Y)(bf:Nat→Y→Y)(hE:qI E)(hL:wX E.P A 1000 na nt b)
  (hs:yKv E A na nt b L.inS L.outs ky c bf:=by intro k rec d;kernel_rfl)
  (hX:∀o R K,L.elim (1000+gu) (ky o) R K=xN (1000+gu) L.outs o K:=by intro o R K;first|rfl|(rcases o with o|o<;>rfl)|(rcases o with o|o|o<;>rfl)|(rcases o with o|o|o|o<;>rfl)|(rcases o with o|o|o|o|o<;>rfl))
  (h0:∀k d,c (f k 0) d=none:=by intros;rfl) (h1:∀k n,f k (n+1)=bf k (f k n):=by intros;rfl) (hf:(⟨L.inS,L.outs,L.X,fun k d=>c (f k k) d,L.elim⟩:qE)=L:=by rfl):qD E.P 1000 na nt b L:=by
 rw[←hf]
 exact vRg hE hs f _ hX hL h0 h1
def ins {α:Type}(b:Nat)(xs:List α)(i:Int)(ys:List α):Option (List α):=
 bif decide (0≤i)&&decide (i≤(xs.length:Int))&&Nat.beq ys.length 1&&zW (xs.length+1) b then some (xs.take i.toNat++(ys++xs.drop i.toNat)) else none
end Go.Ab
