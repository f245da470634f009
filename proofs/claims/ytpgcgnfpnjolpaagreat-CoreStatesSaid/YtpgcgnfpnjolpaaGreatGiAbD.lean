/- part 3 -/
import Derived.Test.YtpgcgnfpnjolpaaGreatGiAbC
import Derived.Laws.Externs
set_option linter.unusedVariables false
set_option linter.unusedSimpArgs false
set_option linter.unusedSectionVars false
namespace Go.Ab
theorem qYy:∀a b,vB (a++b)=vB a++vB b
 |[],_=>rfl
 |(true,_)::a,b
 |(false,_)::a,b=>by simp[vB,qYy a b]
theorem Fh {h}:∀{ls is cs bs},gI h ls is=some (cs,bs)→∀id∈vB bs,∃o,h id=some o∧o.owned=true
 |[],[],_,_,e=>by cases e;nofun
 |(io,l)::ls,i::is,cs,bs,e=>by
  unfold gI at e;split at e
  ·rename_i cells rest vl h1 h2;obtain⟨_,e⟩:=vQ e;cases e;intro id ah;cases io with
   |false=>exact Fh h2 id ah
   |true=>
    rcases List.mem_cons.1 ah with rfl|ah
    ·unfold Ag at h1;split at h1
     ·rename_i c hc;exact⟨_,hc,rfl⟩
     all_goals simp_all
    ·exact Fh h2 id ah
  ·cases e
theorem vDp {h}{s:AX}{a cs bs}(e:s.get h a=some (cs,bs)):∀id∈vB bs,∃o,h id=some o∧o.owned=true:=by
 unfold AX.get at e;split at e
 ·cases e;nofun
 ·obtain⟨_,e⟩:=vQ e;cases e;nofun
 ·exact Fh e
 ·obtain⟨_,e⟩:=vQ e;exact Fh e
 ·split at e
  ·exact Fh e
  ·cases e
 ·cases e
theorem yA2 {h}:∀{l as cs bs},ix h l as=some (cs,bs)→l.length=as.length∧∀id∈vB bs,∃o,h id=some o∧o.owned=true
 |[],[],_,_,e=>by cases e;exact⟨rfl,nofun⟩
 |s::l,a::as,cs,bs,e=>by
  unfold ix at e;split at e
  ·rename_i c1 b1 c2 b2 h1 h2;cases e;obtain⟨k1,k2⟩:=yA2 h2;refine⟨by simp[k1],fun id ah=>?_⟩;rw[qYy] at ah;rcases List.mem_append.1 ah with ah|ah
   ·exact vDp h1 id ah
   simp_all
  ·cases e
theorem yB5 {h}:∀{l cs d},mM h l cs=some d→∀id∈wL l cs,∃o,h id=some o∧o.owned=true
 |[],[],_,_=>nofun
 |x::l,c::cs,d,e=>by
  unfold mM at e;split at e
  ·rename_i y ys h1 h2;have ih:=yB5 h2;unfold E7 at h1;split at h1
   ·exact ih
   ·intro jd ah;rcases List.mem_cons.1 ah with rfl|ah
    ·split at h1
     ·rename_i s xs hs;exact⟨_,hs,rfl⟩
     ·cases h1
    ·simp_all
   ·intro jd ah;rcases List.mem_cons.1 ah with rfl|ah
    ·split at h1
     ·rename_i s xs hs;exact⟨_,hs,rfl⟩
     ·cases h1
    ·exact ih jd ah
   ·intro jd ah;rcases List.mem_cons.1 ah with rfl|ah
    ·split at h1
     ·rename_i xs hs;exact⟨_,hs,rfl⟩
     ·cases h1
    simp_all
   ·exact ih
   ·cases h1
  ·cases e
theorem qT1 {a b}(h:PB a b=true):∀id∈b,id∉a:=fun id hb ha=>by
 have h:=List.all_eq_true.1 h id ha;have:b.any (Nat.beq id)=true:=List.any_eq_true.2 ⟨id,hb,by simp⟩;simp_all
theorem yR7:∀os cs,(sy os cs).length=os.length
 |[],_=>rfl
 |_::os,cs=>by simp[sy,yR7 os]
theorem yJl {M L}{P:zI→Nat→Prop}{R}:∀{ids js css Bs},zK (jz M L) ids js→ma R js css Bs→ma (fun id cs B=>∃jd,jz M L id jd∧R jd cs B) ids css Bs
 |[],[],[],[],_,_=>trivial
 |_::_,_::_,_::_,_::_,h,k=>⟨⟨_,h.1,k.1⟩,yJl (P:=P) h.2 k.2⟩
theorem zI.gone_ok {M}(ok:Ok M){nm}(aO:M.h nm=none) C:
  Ok (M.add nm .gone C)∧yF M (M.add nm .gone C)∧(∀b,qJ (M.add nm .gone C) b→qJ M b):=by
 have x:yF M (M.add nm .gone C):=⟨fun id D h=>by
  have bj:id≠nm:=fun e=>by rw[e,ok.non nm aO] at h;cases h
  exact⟨D,by show κset M.κ nm _ id=_;rw[κset_ne _ _ bj];exact h,D.le_refl⟩,fun _ h=>h,fun _ h=>h,fun _ _=>rfl,fun _ _=>rfl,fun _ _=>rfl⟩
 have at':∀o,(M.add nm .gone C).h nm=some o→o=.gone:=fun o h=>by
  have e1:(M.add nm .gone C).h nm=some .gone:=yE _ _ _;simp_all
 refine⟨Ok.build ok x (fun id=>id=nm) (fun id h=>yJ _ _ h) (fun id h=>κset_ne _ _ h) (fun _ _ _ _ _ _ _ _ _=>rfl) (fun id o' D h1 h2 h3 h4 b bD=>(ok.own b ⟨id,o',D,h2,h3,h4,bD⟩).1) (Nat.le_refl _)
  (fun id o' e h=>?_) (fun id e h=>?_) (fun id o' D b e h1 h2 h3 h4=>?_) ok.GF ok.Flt,x,fun b bD=>?_⟩
 ·subst e;rw[at' o' h];exact⟨_,κset_same _ _ _,trivial⟩
 ·have e1:(M.add id .gone C).h id=some .gone:=yE _ _ _;simp_all
 ·subst e;rw[at' o' h1] at h2;cases h2
 ·obtain⟨id,o',D,h1,h2,h3,h4⟩:=bD;by_cases e:id=nm
  ·subst e;rw[at' o' h1] at h2;cases h2
  ·exact⟨id,o',D,by rw[←h1];exact(yJ _ _ e).symm,h2,by rw[←h3];exact(κset_ne _ _ e).symm,h4⟩
theorem yS5:∀{n nm Bs M},Ok M→(∀i,i<n→M.h (nm+i)=none)→Bs.length=n→
  ∃M':zI,M'.H=M.H∧M'.G=M.G∧M'.F=M.F∧M'.h=qF M.h (mO (jx nm n))∧Ok M'∧yF M M'∧(∀b,qJ M' b→qJ M b)∧zK (fun id B=>∃C,M'.κ id=some C∧C.blk=some B) (jx nm n) Bs
 |0,nm,[],M,ok,_,_=>⟨M,rfl,rfl,rfl,rfl,ok,.refl M,by simp,trivial⟩
 |n+1,nm,B::Bs,M,ok,hf,hl=>by
  obtain⟨k1,k2,k3⟩:=zI.gone_ok ok (hf 0 (by omega)) ⟨some B,0,0,0,[]⟩;obtain ⟨M', a1, a2, a3, a4, a5, a6, a7, a8⟩ := yS5 (n := n) (nm := nm + 1) (Bs := Bs) k1 (fun i hi=>by
   have:=hf (i+1) (by omega);rw[show nm+1+i=nm+(i+1) by omega,←this];exact yJ _ _ (by omega)) (by simp_all)
  refine⟨M',a1,a2,a3,a4,a5,yF.trans (M:=M) (M':=M.add nm .gone ⟨some B,0,0,0,[]⟩) (Nat.le_refl _) k2 a6,by grind,?_,a8⟩;obtain⟨C,h1,h2⟩:=a6.κ nm _ (κset_same _ _ _);exact⟨C,h1,h2.blk⟩
theorem PK {L M ids js}(hs:zK (jz M L) ids js):∀{l cs ds vs},n9 l js cs=true→zK (zQ L) cs vs→zK (zQ M) ds vs→zK (zQ M) (vk l ids ds) vs
 |[],cs,ds,vs,_,_,hd=>by exact hd
 |none::l,[],[],[],_,_,_=>trivial
 |none::l,c::cs,d::ds,v::vs,h,hc,hd=>⟨hd.1,PK hs (l:=l) h hc.2 hd.2⟩
 |some j::l,c::cs,d::ds,v::vs,h,hc,hd=>by
  obtain⟨id,rfl,ah,h'⟩:=yEh h;refine⟨?_,PK hs h' hc.2 hd.2⟩;have hj:=(List.getElem?_eq_some_iff.1 ah).1;have hi:j<ids.length:=by rw[hs.length];exact hj
  have:=hs.get j hi hj;rw[(List.getElem?_eq_some_iff.1 ah).2] at this;obtain⟨C,D,B,q1,q2,q3,q4⟩:=this;obtain⟨D',B',p1,p2,p3⟩:=hc.1;rw[q3] at p1;cases p1;rw[q4] at p2;cases p2;rw[List.getElem?_eq_getElem hi];exact⟨C,B,q1,q2,p3⟩
 |_,[],_::_,[],_,_,hd=>hd.elim
 |_,_::_,[],[],_,hc,_=>hc.elim
theorem vGk {h ns cs nw}(e:PA h ns cs=some nw):nw.length=ns:=by
 unfold PA at e;cases h0:Nat.beq ns 0 with
 |true=>simp_all
 |false=>
  rw[h0] at e;split at e
  ·exact(PF e).2
  ·cases e
def PM (w:World)(na:Nat)(chn:Bool)(M:zI)(vs:Array Value)(rv:Value)(w':World)(v:zT)(st:St):Prop:=
 ∃M':zI,M'.h=st.h∧M'.H=w'.heap∧Ok M'∧gH M M'∧(chn=true→Jk M M')∧zP M' v rv∧w'.os=w.os∧w'.tape=w.tape∧w'.output=w.output∧(∀t,t<na→zP M' (st.t t) (vs.getD t undef))
theorem yEq {n}:∀{l nm d hh},(∀j,j<l.length→n≠nm+j)→qF hh (lW nm l d).2 n=hh n
 |[],_,_,_,_=>rfl
 |r::l,nm,d,hh,h=>by
  show qF hh ((nT nm r d.1).2++(lW (nm+1) l d.2).2) n=_;rw[iO,yEq fun j hj=>by have:=h (j+1) (by simp_all);omega,yBz (by have:=h 0 (by simp);omega)]
theorem vGu {M}(ok:Ok M){io id cells}(h:Ag M.h io id=some cells):∃C B,M.κ id=some C∧C.blk=some B:=by
 have h':zx M.h id=some cells:=by
  unfold Ag at h;unfold zx;grind
 obtain⟨C,h1,B,_,_,h2,_⟩:=qVr ok h';simp_all
theorem JH {M}(ok:Ok M):∀{ls is cs bs},gI M.h ls is=some (cs,bs)→∀q∈bs,∃C B,M.κ q.2=some C∧C.blk=some B
 |[],[],_,_,e=>by cases e;simp
 |(io,l)::ls,i::is,cs,bs,e=>by
  unfold gI at e;split at e
  ·rename_i cells rest vl h1 h2;obtain⟨_,e⟩:=vQ e;cases e;intro q hq;rcases List.mem_cons.1 hq with rfl|hq
   ·exact vGu ok h1
   ·exact JH ok h2 q hq
  ·cases e
theorem qX7 {M}(ok:Ok M):∀{l as cs bs},ix M.h l as=some (cs,bs)→∀q∈bs,∃C B,M.κ q.2=some C∧C.blk=some B
 |[],[],_,_,e=>by cases e;simp
 |s::l,a::as,cs,bs,e=>by
  unfold ix at e;split at e
  ·rename_i c1 b1 c2 b2 h1 h2;cases e;intro q hq;rcases List.mem_append.1 hq with hq|hq
   ·unfold AX.get at h1;split at h1
    ·simp_all
    ·grind
    ·exact JH ok h1 q hq
    ·obtain⟨_,h1⟩:=vQ h1;exact JH ok h1 q hq
    ·split at h1
     ·exact JH ok h1 q hq
     ·cases h1
    ·cases h1
   ·exact qX7 ok h2 q hq
  ·cases e
theorem yBx {L}(ok:Ok L):∀{os ids bs},Ah L.h os ids=some bs→∀j∈ids,∃cells C B,L.h j=some (.box true cells)∧L.κ j=some C∧C.blk=some B
 |[],[],_,_=>by simp
 |o::os,n::ns,bs,h=>by
  unfold Ah at h;split at h
  ·rename_i cells rest h1 h2;intro j hj;rcases List.mem_cons.1 hj with rfl|hj
   ·obtain⟨C,hC,B,vals,e,q1,_⟩:=ok.obj _ _ h1;simp_all
   ·exact yBx ok h2 j hj
  ·cases h
theorem yLm {L}(ok:Ok L):∀{js:List Nat},js.Nodup→(∀j∈js,∃cells C B,L.h j=some (.box true cells)∧L.κ j=some C∧C.blk=some B)→(js.map fun id=>((L.κ id).bind zZ.blk).getD 0).Nodup
 |[],_,_=>by simp
 |a::js,hn,bb=>by
  obtain⟨n1,n2⟩:=List.nodup_cons.1 hn;refine List.nodup_cons.2 ⟨fun sD=>?_,yLm ok n2 (by grind)⟩;obtain⟨j,hj,vq⟩:=List.mem_map.1 sD;obtain⟨c1',C,B,q1,q2,q3⟩:=bb a (by simp);obtain⟨c2',D,B',q4,q5,q6⟩:=bb j (by grind);have vq:((L.κ j).bind zZ.blk).getD 0=((L.κ a).bind zZ.blk).getD 0:=vq;rw[q2,q5] at vq;have vq:(D.blk.getD 0)=(C.blk.getD 0):=vq;rw[q3,q6] at vq;subst vq;exact ok.disj a j _ _ C D B' (by grind) q1 q4 rfl rfl q2 q5 (by simp[zZ.fp,q3]) (by simp[zZ.fp,q6])
theorem yYn {na as}(pO:E6 as na=true){nm n args h u0 io rows d}(he:Ak as nm n args h=some (u0,io,rows,d)) M w vs (hh:M.h=h)(hH:M.H=w.heap)(ok:Ok M)(hv:zK (zP M) args vs.toList):
  ∃Ml:zI,Ml.h=(mN as d).2∧Ml.H=w.heap∧Ok Ml∧zK (zP Ml) (mN as d).1 vs.toList∧
   ∀rv w' v0 st,PM w na (as.any AX.isChn) Ml vs rv w' v0 st→∀rs os ns dx,Ai st as rs os ns v0=some dx→(rs.cells++os.flatten).length+ns≤n→
    ∃Mf,pA M w (PD u0 io rows rs os ns nm dx).2 Mf w'∧zP Mf (PD u0 io rows rs os ns nm dx).1 rv:=by
 unfold Ak at he;split at he
 ·cases he
 rename_i dR u vf;split at he
 ·cases he
 rename_i cs bs cQ;split at he
 ·cases he
 rename_i d' hd;dsimp only at he;obtain⟨hc,he⟩:=lf he;cases he;simp only[Bool.and_eq_true] at hc;obtain⟨⟨⟨⟨⟨⟨mP,cU⟩,dB⟩,fg⟩,kD⟩,An⟩,Ao⟩:=hc;subst hh;obtain⟨M1,a1,a2,a3,a4,a5,a6⟩:=yE9 ok (wF.refl _) hv vf;rw[←a2] at hd cQ;obtain⟨aac,jt⟩:=yA2 cQ;have aU:=yB5 hd;have dF:lk M1 (vB bs++wL (as.flatMap AX.cells) cs):=fun id ah=>(List.mem_append.1 ah).elim (jt id) (aU id)
 have PN:=zm fg;obtain⟨Ml,lo,b2,b3,b4,b5,b6⟩:=vNw a3 a5 cQ hd PN (qT1 kD) (qT1 An) (Nat.le_of_ble_eq_true dB) Ao dF;generalize fG:vB bs++wL (as.flatMap AX.cells) cs=aj at*
 refine⟨Ml,b2,by rw[lo.H,a1];exact hH,b3,b5,fun rv w' v0 st ⟨L0,c1,c2,c3,c4,ck,c5,c6,c7,c8,c9⟩ rs os ns dx hK hn=>?_⟩;unfold Ai at hK;split at hK
 ·cases hK
 rename_i PO jq;split at hK
 ·cases hK
 rename_i ccs lh;split at hK
 ·cases hK
 rename_i nw hnw;split at hK
 ·cases hK
 rename_i bcs pP;obtain⟨Fi,JI⟩:=lf hK;clear hK;split at JI
 case h_2=>cases JI
 rename_i aM u1 vh;obtain⟨di,hK⟩:=lf JI;clear JI;rw[Bool.and_eq_true] at di;obtain⟨di,Fj⟩:=di;have PQ:=vGk hnw;obtain⟨hlen,us,d1,d2⟩:=yMn lh c5;rw[←c1] at vh hK pP;obtain⟨js,rW⟩:∃js,js=PO++nw:=⟨_,rfl⟩;rw[←rW] at pP Fi Fj;obtain⟨k1,k2,JJ,k3,k4⟩:=yQ2 c3 pP;obtain⟨L,e1,e2,e3,e4,e5,e6⟩:=ss c3 (wF.refl _) (d1.append k3) vh;rw[←e2] at hK;have g:gH Ml L:=c4.trans e4.grow;obtain⟨f1,f2,f3⟩:=zI.overX_ok a3 e3 lo dF b4 g;have cF : zK (jz M1 L0) (vB bs) PO := yRu cQ jq a5 (fun i hi s hs pM=>by
  have bE:i<vs.size:=by simpa using hi
  have bd:i<na:=by
   have:=List.all_eq_true.1 pO (s,i) (List.mk_mem_zipIdx_iff_getElem?.2 hs);simp only[pM,Bool.not_true,Bool.false_or] at this;exact NS this
  have:=c9 i bd;rw[Nat.zero_add];have e:vs.getD i undef=vs.toList[i]:=by simp[bE]
  rw[←e];exact this) fun sE i q hq=>by
   obtain⟨C,B,p1,p2⟩:=qX7 a3 cQ q (List.mem_of_getElem? hq);have hi:i<bs.length:=(List.getElem?_eq_some_iff.1 hq).1;have hκ:Ml.κ i=some C:=by
    rw[b6];unfold κX;have:Nat.ble vT i=false:=by
     cases h:Nat.ble vT i with
     |false=>rfl
     |true=>have h1:=Nat.le_of_ble_eq_true h;have h2:=Nat.le_of_ble_eq_true dB;omega
    rw[this,hq];exact p1
   obtain⟨C',p3,p4⟩:=ck sE i C hκ;rw[Nat.zero_add];exact⟨C,C',B,p1,p2,p3,p4.trans p2⟩
 have mQ:∀i,i<n→(M1.overX L aj).h (nm+i)=none:=fun i hi=>by
  have h1:=Ph mP i hi;have h2:M1.h (nm+i)=none:=by
   rw[a2];rcases a6 (nm+i) with h|⟨own,t,xs,h,_⟩|⟨ver,xs,h,_⟩
   ·rw[a2] at h;rw[h];exact h1
   ·rw[h1] at h;cases h
   ·rw[h1] at h;cases h
  show qF M1.h (mO aj) (nm+i)=none;rw[sC,if_neg,h2];intro sD;obtain⟨o,ho,_⟩:=dF _ sD;rw[h2] at ho;cases ho
 have mK:∀i,i<(rs.cells++os.flatten).length→(M1.overX L aj).h (nm+i)=none:=fun i hi=>mQ i (by omega)
 have pQ:∀b,qJ L b→b<M1.H.size→iS M1 aj b:=fun b hb bd=>b4 b (g.own b hb (by rw[lo.H];exact bd))
 have sF:∀b,qJ L b→¬(M1.overX L aj).F b:=fun b hb h=>by
  rcases h with h|h
  ·exact(pL a3 dF h).2 (pQ b hb (a3.Flt b h))
  ·exact(e3.own b hb).1 (e3.GF b h)
 have sG:∀b,qJ L b→¬qJ (M1.overX L aj) b:=fun b hb h=>by
  obtain⟨q1,q2⟩:=f3 b h;exact q2 (pQ b hb (a3.own b q1).2)
 obtain ⟨Mc, g1, g2, g3, g4, g5, g6, g7, g8⟩ := Pj e3 f1 ⟨rfl, rfl⟩ mK hK (zm di) (sv hK) (fun id ah C hC b hb=>by
  obtain⟨o,ho,fW⟩:=sv hK id ah;have aJ:qJ L b:=⟨id,o,C,ho,fW,hC,hb⟩;exact⟨sG b aJ,sF b aJ,(e3.own b aJ).2⟩)
 obtain ⟨Mg, n1, n2, n3, n4, n5, n6, n7, n8⟩ := yS5 (n := ns) (nm := nm + (rs.cells ++ os.flatten).length) (Bs := nw.map fun id => ((L0.κ id).bind zZ.blk).getD 0) g5 (fun i hi=>by
  rw[g4,yEq (fun j hj=>by omega),Nat.add_assoc];exact mQ _ (by omega)) (by simp[PQ])
 have mR:∀j∈js,∃cells C B,L0.h j=some (.box true cells)∧L0.κ j=some C∧C.blk=some B:=yBx c3 pP;have JK:yF M1 Mg:=(f2.ext.trans f2.size g6).trans (by rw[g1];exact f2.size) n6;have zq:zK (jz Mg L0) (vB bs) PO:=cF.mono fun id jd hq=>by
  obtain⟨C,D,B,q1,q2,q3,q4⟩:=hq;obtain⟨C',p3,le⟩:=JK.κ id C q1;exact⟨C',D,B,p3,le.blk.trans q2,q3,q4⟩
 have Ap:zK (jz Mg L0) (jx (nm+(rs.cells++os.flatten).length) ns) nw:=by
  have hl8:=n8.length;rw[List.length_map] at hl8;refine zK.of_get hl8 fun i h1 h2=>?_
  obtain⟨C,q1,q2⟩:=n8.get i h1 (by simpa using h2);obtain⟨cells,D,B,p1,p2,p3⟩:=mR nw[i] (by rw[rW];exact List.mem_append_right _ (List.getElem_mem _));refine⟨C,D,B,q1,?_,p2,p3⟩;rw[q2,List.getElem_map,p2];show some (D.blk.getD 0)=_;rw[p3];rfl
 have j0:zK (jz Mg L0) (vB bs++jx (nm+(rs.cells++os.flatten).length) ns) js:=by
  rw[rW];exact zq.append Ap
 have pR:zK (jz Mg L) (vB bs++jx (nm+(rs.cells++os.flatten).length) ns) js:=j0.mono fun id jd hq=>by
  obtain⟨C,D,B,q1,q2,q3,q4⟩:=hq;obtain⟨D',p3,le⟩:=e4.ext.κ jd D q3;exact⟨C,D',B,q1,q2,p3,le.blk.trans q4⟩
 have vr:=PK pR Fj e5 ((g8 _ e5).mono fun _ _ h=>h.ext n6);obtain⟨G,hG⟩:∃G,G=vk ((rs.cells++os.flatten).map RC.lnk) (vB bs++jx (nm+(rs.cells++os.flatten).length) ns) (lW nm (rs.cells++os.flatten) dx).1:=⟨_,rfl⟩;rw[←hG] at vr;have ze:us.length=rs.cells.length:=by rw[←d1.length,hlen]
 have hgr:zK (zQ Mg) (G.take rs.cells.length) us:=by
  have:=zK.take rs.cells.length vr
  rwa [show(us++JJ).take rs.cells.length=us from by rw[←ze,List.take_left]] at this
 have hgb:zK (zQ Mg) (G.drop rs.cells.length) JJ:=by
  have:=zK.drop rs.cells.length vr
  rwa [show(us++JJ).drop rs.cells.length=JJ from by rw[←ze,List.drop_left]] at this
 have hHc:Mg.H=L0.H:=by rw[n1,g1];exact e1
 have Fk:=yJl (P:=fun _ _=>True) j0 (k4 hHc hgb);have sH:∀jd B,(∃cells,L0.h jd=some (.box true cells))→(∃C,L0.κ jd=some C∧C.blk=some B)→∃cells C,L.h jd=some (.box true cells)∧L.κ jd=some C∧B∈C.fp:=fun jd B ⟨cells,q1⟩ ⟨C,q2,q3⟩=>by
  obtain⟨C',q4,le⟩:=e4.ext.κ jd C q2;refine⟨cells,C',?_,q4,?_⟩
  ·rcases e6 jd with h|⟨own,t,xs,h,_⟩|⟨ver,xs,h,_⟩
   ·rw[h,q1]
   ·rw[q1] at h;cases h
   ·rw[q1] at h;cases h
  ·have:C'.blk=some B:=le.blk.trans q3;simp[zZ.fp,this]
 have Fl:∀b,b∈(js.map fun id=>((L0.κ id).bind zZ.blk).getD 0)→qJ L b:=fun b hb=>by
  obtain⟨j,hj,rfl⟩:=List.mem_map.1 hb;obtain⟨cells,C,B,q1,q2,q3⟩:=mR j hj;obtain⟨bB,D,p4,p5,p6⟩:=sH j B ⟨cells,q1⟩ ⟨C,q2,q3⟩;have e:((L0.κ j).bind zZ.blk).getD 0=B:=by rw[q2];show C.blk.getD 0=B;rw[q3];rfl
  rw[e];exact⟨j,_,D,p4,rfl,p5,p6⟩
 have vt : ma (yO6 Mg) (vB bs ++ jx (nm + (rs.cells ++ os.flatten).length) ns) (sy os (G.drop rs.cells.length)) (js.map fun id => ((L0.κ id).bind zZ.blk).getD 0) := ma.mono (fun id css B _ ⟨jd,q1,q2,⟨D0,q3,q3b,_⟩,q4⟩=>by
  obtain⟨C,D1,B',p1,p2,p3,p3b⟩:=q1;rw[q3] at p3;cases p3;rw[q3b] at p3b;cases p3b;obtain⟨cells,D,p4,p5,p6⟩:=sH jd B q2 ⟨_,q3,q3b⟩;have aJ:qJ L B:=⟨jd,_,D,p4,rfl,p5,p6⟩;refine⟨⟨C,p1,p2⟩,q4,fun ho=>?_,?_⟩
  ·rcases g7 B (n7 B ho) with h|⟨kd,JL,D',p7,p8⟩
   ·exact sG B aJ h
   ·obtain⟨o,p9,pN⟩:=sv hK kd JL;refine e3.disj jd kd _ o D D' B (fun e=>?_) p4 p9 rfl pN p5 p7 p6 p8;exact yCb hK kd JL true cells (by rw[←e];exact p4)
  ·rw[n3,g3];exact sF B aJ) Fk
 have hBs:(js.map fun id=>((L0.κ id).bind zZ.blk).getD 0).Nodup:=yLm c3 (zm Fi) mR;obtain⟨Mf,r1,r2,r3,r4,r5,r6,r7⟩:=yA6 n5 vt hBs;have Pp:yS M1 Mf:=by
  have aJ:∀b,qJ Mf b→b<M1.H.size→qJ M1 b:=fun b hb bd=>by
   rcases r7 b hb with hb|hb
   ·rcases g7 b (n7 b hb) with h|⟨id,ah,C,hC,zz⟩
    ·exact(f3 b h).1
    ·obtain⟨o,ho,fW⟩:=sv hK id ah;exact(pQ b ⟨id,o,C,ho,fW,hC,zz⟩ bd).own dF
   ·exact(pQ b (Fl b hb) bd).own dF
  have Jw:Mf.H=(M1.overX L aj).H:=r1.trans (n1.trans g1);refine⟨JK.trans ?_ r6,?_,fun b hb hn=>?_,aJ,fun b hb bd=>?_,fun b hb bd=>?_⟩
  ·rw[n1,g1];exact f2.size
  ·rw[Jw];exact f2.size
  ·rw[Jw];exact f2.frame b hb hn
  ·rw[r2,n2,g2] at hb;exact f2.Gb b hb bd
  ·rw[r3,n3,g3] at hb;exact f2.Fb b hb bd
 have mS:(vB bs++jx (nm+(rs.cells++os.flatten).length) ns).length=(sy os (G.drop rs.cells.length)).length:=by
  rw[yR7,j0.length,k2]
 refine⟨Mf,⟨c6,c7,c8,?_,?_,r5,a4.trans Pp⟩,?_⟩
 ·rw[r1,n1,g1];show L.H=_;rw[e1,c2]
 ·rw[r4,n4,g4];show _=qF M.h (u0++(mO (wL (as.flatMap AX.cells) cs)++((lW nm (rs.cells++os.flatten) dx).2++Aj (vB bs++jx (nm+(rs.cells++os.flatten).length) ns) (sy os ((vk ((rs.cells++os.flatten).map RC.lnk) (vB bs++jx (nm+(rs.cells++os.flatten).length) ns) (lW nm (rs.cells++os.flatten) dx).1).drop rs.cells.length)))));rw[←hG,iO,iO,iO,←a2];refine qVc mS fun m hm=>?_
  rw[List.mem_append,not_or] at hm;rw[sC,if_neg hm.2];refine uT ?_;show qF M1.h (mO aj) m=_;rw[sC,sC,←fG];simp[hm.1]
 ·show zP Mf (rs.mk ((vk ((rs.cells++os.flatten).map RC.lnk) (vB bs++jx (nm+(rs.cells++os.flatten).length) ns) (lW nm (rs.cells++os.flatten) dx).1).take rs.cells.length)) rv;rw[←hG];exact d2 Mf _ (hgr.mono fun _ _ h=>h.ext r6)
theorem yFr {P na f}(dr:∀vs w,(callFunc f vs).run P w=.ok (.enter f vs) w)
  {as rs os ns X} {S:XD as→Option X} {pack unpack} (iw:∀d,pack (unpack d)=d) (pO:E6 as na=true)
  (vu:∀d x,S d=some x→∀M w vs,M.h=(mN as d).2→M.H=w.heap→Ok M→zK (zP M) (mN as d).1 vs.toList→Calls P f vs w fun
   |.returned rv,w'=>∃(v:zT) (st:St),Fe as rs os ns unpack v st=some x∧PM w na (as.any AX.isChn) M vs rv w' v st
   |_,_=>False)
  {nm args h v u} (hy:yC (oe as rs os ns S pack nm args h) v u):uO P f args h v u:=by
 intro M w vs hh hH ok hv;refine .inl ⟨dr vs w,?_⟩;unfold oe at hy;split at hy
 ·exact hy.elim
 rename_i u0 io rows d he;obtain⟨x,hx,rfl,rfl⟩:=hy;obtain⟨Ml,b1,b2,b3,b4,b5⟩:=yYn pO he M w vs hh hH ok hv;refine Calls.mono (vu d x hx Ml w vs b1 b2 b3 b4) fun e w' hl=>?_
 cases e with
 |panicked _=>omega
 |outgrown=>omega
 |returned rv=>
  obtain⟨v0,st,hK,hl⟩:=hl;have hK:Ai st as rs os ns v0=some (pack x):=by
   unfold Fe at hK;grind
  grind
theorem vO2 {E}(hE:fb E)(hS:il E.sums)(hm:E.P.follows .mixedOrders=true){A k pre na f fn}(hf:E.P.funcs[f]? =some fn)(hL:∀c,fn.body=some c→wA E.P A pre na fn.ntmps c){chn}(sE:(!chn||A.loops.isEmpty)=true)
  {R K} {x:R} {args h} (aW:ja E A k pre na fn args h K=some x) {M w vs} (h1:M.h=h) (h2:M.H=w.heap) (h3:Ok M) (h4:zK (zP M) args vs.toList):
  Calls E.P f vs w fun
   |.returned rv,w'=>∃(v:zT) (st:St),K v st=some x∧PM w na chn M vs rv w' v st
   |_,_=>False:=by
 refine Calls.mono (O7 hE hS hm hf hL aW h1 h2 h3 h4) fun e w' hl=>?_
 cases e with
 |panicked _=>omega
 |outgrown=>omega
 |returned rv=>
  obtain⟨M',v,st,a1,a2,a3,a4,a5,a6,a7,a8,a9,a10,a11⟩:=hl;refine⟨v,st,a1,M',a2,a3,a4,a5,fun hc=>a6 ?_,a7,a8,a9,a10,a11⟩;simp_all
theorem vP4 {E}(hE:fb E)(hS:il E.sums)(hm:E.P.follows .mixedOrders=true){A k pre na f fn}(hf:E.P.funcs[f]? =some fn)(hL:∀c,fn.body=some c→wA E.P A pre na fn.ntmps c)(dr:∀vs w,(callFunc f vs).run E.P w=.ok (.enter f vs) w)
  {as rs os ns X} {S:XD as→Option X} {pack unpack} (iw:∀d,pack (unpack d)=d) (pO:E6 as na=true) (sE:(!as.any AX.isChn||A.loops.isEmpty)=true)
  (aW:∀d,ja E A k pre na fn (mN as d).1 (mN as d).2 (Fe as rs os ns unpack)=S d)
  {nm args h v u} (hy:yC (oe as rs os ns S pack nm args h) v u):uO E.P f args h v u:=
 yFr dr iw pO (fun d x hx M w vs h1 h2 h3 h4=>vO2 hE hS hm hf hL sE ((aW d).trans hx) h1 h2 h3 h4) hy
section
variable {h h':Hp}
theorem vB8 {x c}(hh:∀id∈yY c,h id=h' id):E7 h x c=E7 h' x c:=by
 unfold E7;split
 ·exact yK1 hh
 ·rename_i id;rw[hh id (by simp[yY])]
 ·rename_i id;rw[hh id (by simp[yY])]
 ·rename_i id;rw[hh id (by simp[yY])]
 ·rfl
 ·rfl
theorem yJ6:∀{l cs},(∀id∈cs.flatMap yY,h id=h' id)→mM h l cs=mM h' l cs
 |[],[],_
 |[],_::_,_
 |_::_,[],_=>rfl
 |p::l,c::cs,hh=>by
  simp  at hh;unfold mM;rw[vB8 fun id hi=>hh id (.inl hi),yJ6 (by grind)]
theorem vAh {ls}:gI h ls []=gI h' ls []:=by
 cases ls<;>rfl
theorem yUv {s:AX}{a}(hb:vR a=false):s.get h a=s.get h' a:=by
 unfold AX.get;cases s with
 |c p=>grind
 |agg l=>grind
 |ptr io l=>
  cases a with
  |c x=>cases x<;>first|rfl|(exact absurd hb (by simp[vR]))
  |_=>rfl
 |fn f bp=>
  cases a with
  |c x=>cases x with
   |fn g ids=>
    cases ids with
    |nil=>dsimp only;rw[vAh]
    |cons _ _=>exact absurd hb (by nofun)
   |_=>rfl
  |_=>rfl
 |chn ls=>
  cases a with
  |c x=>cases x<;>first|rfl|(exact absurd hb (by nofun))
  |_=>rfl
theorem vKn {s:AX}{a cs bs}(hb:vR a=false)(e:s.get h a=some (cs,bs)):∀id∈cs.flatMap yY,id∈yG a:=by
 unfold AX.get at e;split at e
 ·cases e;intro id ah;simp  at ah;exact ah
 ·obtain⟨_,e⟩:=vQ e;cases e;exact fun id ah=>ah
 ·exact absurd hb (by nofun)
 ·rename_i f bp g ids;obtain⟨_,e⟩:=vQ e;cases ids with
  |nil=>cases bp with
   |nil=>cases e;simp
   |cons _ _=>cases e
  |cons _ _=>exact absurd hb (by nofun)
 ·exact absurd hb (by nofun)
 ·cases e
theorem yRk:∀{l as},as.any vR=false→ix h l as=ix h' l as
 |[],[],_
 |[],_::_,_
 |_::_,[],_=>rfl
 |s::l,a::as,hb=>by
  simp only[List.any_cons,Bool.or_eq_false_iff] at hb;unfold ix;rw[yUv (h:=h) (h':=h') hb.1,yRk hb.2]
theorem ySt:∀{l as cs bs},as.any vR=false→ix h l as=some (cs,bs)→∀id∈cs.flatMap yY,id∈as.flatMap yG
 |[],[],cs,bs,_,e=>by cases e;simp
 |s::l,a::as,cs,bs,hb,e=>by
  simp only[List.any_cons,Bool.or_eq_false_iff] at hb;unfold ix at e;split at e
  ·rename_i c1 b1 c2 b2 e1 e2;cases e;intro id ah;rw[List.flatMap_append,List.mem_append] at ah;rw[List.flatMap_cons,List.mem_append];rcases ah with ah|ah
   ·exact .inl (vKn hb.1 e1 id ah)
   ·exact .inr (ySt hb.2 e2 id ah)
  ·cases e
theorem yTx {s a}(hh:∀id∈yG a,h id=h' id):sA h s a=sA h' s a:=by
 unfold sA;split
 ·rename_i p x;have:=Ac (h:=h) (h':=h') (l:=[p.isKept]) (cs:=[x]) (by rw[z9];exact hh);simp_all
 ·rename_i l xs;have:=Ac (h:=h) (h':=h') (l:=l.map PC.isKept) (cs:=xs) hh;simp_all
 ·rfl
theorem vM0 {s a a' u}(e:sA h s a=some (a',u)):(∀id∈yG a',id∈yG a)∧(vR a=false→vR a'=false):=by
 unfold sA at e;split at e
 ·rename_i p x;split at e
  ·rename_i y u1 e1;cases e;refine⟨fun id ah=>by have:=Ad e1 id (by rw[z9];omega);rwa [z9] at this,fun hb=>?_⟩;cases hk:p.isKept with
   |false=>rw[hk] at e1;cases e1;exact hb
   |true=>
    rw[hk] at e1;unfold jY at e1;split at e1
    ·rename_i c1 u2 ky nH e2 e3;cases e1;cases hy:vR (.c y) with
     |false=>rfl
     |true=>rw[(Pq e2).2 hy] at hb;cases hb
    ·cases e1
  ·cases e
 ·split at e
  ·rename_i ys u1 e1;cases e;exact⟨Ad e1,fun _=>rfl⟩
  ·cases e
 simp_all
theorem qYl:∀{l as},(∀id∈as.flatMap yG,h id=h' id)→oc h l as=oc h' l as
 |[],as,_=>by rfl
 |_::_,[],_=>rfl
 |s::l,a::as,hh=>by
  simp  at hh;unfold oc;rw[yTx fun id hi=>hh id (.inl hi),qYl (by grind)]
theorem yQi:∀{l as dV u},oc h l as=some (dV,u)→(∀id∈dV.flatMap yG,id∈as.flatMap yG)∧(as.any vR=false→dV.any vR=false)
 |[],as,dV,u,e=>by cases as<;>cases e<;>exact by simp
 |s::l,[],dV,u,e=>by cases e;simp
 |s::l,a::as,dV,u,e=>by
  unfold oc at e;split at e
  ·rename_i a1 u1 Pn nH e1 e2;obtain⟨k1,k2⟩:=vM0 e1;obtain⟨k3,k4⟩:=yQi e2;grind
  ·cases e
theorem vOo {as nm n args}(h1:args.any vR=false→∀id,(id∈args.flatMap yG∨kV nm id=true)→h id=h' id)(h2:args.any vR=true→h=h'):Ak as nm n args h=Ak as nm n args h':=by
 cases hb:args.any vR with
 |true=>rw[h2 hb]
 |false=>
  have hh:=h1 hb;unfold Ak;rw[qYl (h:=h) (h':=h') (by grind)];cases e:oc h' as args with
  |none=>rfl
  |some p=>
   obtain⟨dR,u⟩:=p;obtain⟨k1,k2⟩:=yQi e;dsimp only;rw[yRk (h:=qF h u) (h':=qF h' u) (k2 hb)];cases e2:ix (qF h' u) as dR with
   |none=>rfl
   |some q=>
    obtain⟨cs,bs⟩:=q;dsimp only;rw[yJ6 (h:=qF h u) (h':=qF h' u) fun id ah=>uT (hh id (.inl (k1 id (ySt (k2 hb) e2 id ah))))];cases mM (qF h' u) (as.flatMap AX.cells) cs with
    |none=>rfl
    |some d=>
     cases hle:Nat.ble n 100 with
     |false=>simp
     |true=>
      have hle:=Nat.le_of_ble_eq_true hle;rw [Pr (h := h) (h' := h') fun i hi => hh _ (.inr (by
       simp only[kV,Bool.and_eq_true];exact⟨by simp,by simp[Nat.blt_eq];omega⟩))]
end
theorem yQs {as rs os ns X}{S:Nat→XD as→Option X}{pack}:Jx fun k nm args h=>oe as rs os ns (S k) pack nm args h:=by
 intro k nm args h h' h1 h2;show oe as rs os ns (S k) pack nm args h=oe as rs os ns (S k) pack nm args h';unfold oe;rw[vOo h1 h2]
structure zD (P:Program) (r:Nat×lZ):Prop where
 ok:qWm P r
 loc:Jx r.2
def Aq (P:Program):List (Nat×lZ)→Prop
 |[]=>True
 |r::l=>zD P r∧Aq P l
theorem Aq.all {P}:∀{l},Aq P l→∀r∈l,zD P r
 |a::l,h,r,hr=>by
  rcases List.mem_cons.1 hr with rfl|hr
  ·exact h.1
  ·exact Aq.all h.2 r hr
structure wY (E:Env):Prop where
 ok:fb E
 loc:il E.sums
 ord:E.P.follows .mixedOrders=true
theorem Ar {P l eqT}(he:Ep P eqT)(hm:P.follows .mixedOrders=true)(h:Aq P l):wY ⟨P,eqT,jP l⟩:=
 ⟨⟨he,ySk fun r hr=>(h.all r hr).ok⟩,yKb fun r hr=>(h.all r hr).loc,hm⟩
theorem mT {P l}(hm:P.follows .mixedOrders=true)(h:Aq P l):wY ⟨P,fun _=>false,jP l⟩:=Ar vIp hm h
theorem qC {P A pre na nt c L}(h:zU P pre na nt (zO c 0) L)(hn:(lj c).length=1:=by kernel_rfl) (hl:rS A (zO c 0)=some L:=by kernel_rfl):wA P A pre na nt c:=
 nV hn (by grind)
theorem loops0 {P A pre na nt c}(hn:(lj c).length=0:=by kernel_rfl):wA P A pre na nt c:=yUu hn
def yEl (E:Env)(A:zY)(na nt:Nat)(b:Code) ins outs {X Y:Type}(ko:rN outs→X)(c:Y→pb ins→Option X)(bf:Nat→Y→Y):Prop:=
 ∀k rec d,c (bf k rec) d=IK (1000+fD) ins d fun st=>g9 E A k 1000 na nt b st (Ym 1000 ins outs ko (c rec))
abbrev vQl (X:Type):=Nat→X→(R:Type)→(Ex→St→Option R)→Option R
theorem vCw {E A na nt b ins outs X Y ko c bf}(hE:wY E)(hs:yEl E A na nt b ins outs ko c bf)(f:Nat→Nat→Y)(elim:vQl X)
  (hX:∀o R K,elim (1000+fD) (ko o) R K=yt (1000+fD) outs o K) (hL:wA E.P A 1000 na nt b) (h0:∀k d,c (f k 0) d=none:=by intros;rfl) (h1:∀k n,f k (n+1)=bf k (f k n):=by intros;rfl):
  zU E.P 1000 na nt b ⟨ins,outs,X,fun k d=>c (f k k) d,elim⟩:=
 vKi hE.ok hE.loc hE.ord hL ko elim hX (fun k n d=>c (f k n) d) h0 (fun k n d=>by rw[h1];exact hs k (f k n) d)
def PR (E:Env)(A:zY)(na:Nat)(fn:Func) as (rs:RS){X}(up:RL rs.cells→X)(S:Nat→AD as→Option X):Prop:=
 ∀k d,ja E A k 1000 na fn (mI as d).1 (mI as d).2 (kB rs up)=S k d
def yP6 (E:Env)(A:zY)(na:Nat)(fn:Func) as (rs:RS)(os:List (List RC))(ns:Nat){X}(up:RL (rs.cells++os.flatten)→X)(S:Nat→XD as→Option X):Prop:=
 ∀k d,ja E A k 1000 na fn (mN as d).1 (mN as d).2 (Fe as rs os ns up)=S k d
theorem vMf {E A na f fn as rs X S pack}{unpack:RL rs.cells→X}(hE:wY E)(aW:PR E A na fn as rs unpack S)(hL:wA E.P A 1000 na fn.ntmps (zS fn))
  (hf:E.P.funcs[f]? =some fn:=by kernel_rfl) (hb:fn.body.isNone=false:=by kernel_rfl) (hn:(fn.name== "runtime.NumGoroutine")=false:=by kernel_rfl) (iw:∀d,pack (unpack d)=d:=by intro d;rfl):
  zD E.P (f,fun k nm args h=>lX as rs (S k) pack nm args h):=
 ⟨fun k _ _ _ _ _ hy=>vEb hE.ok hE.loc hE.ord hf (body_loops hL) (Jy hf hb hn) iw (aW k) hy,qT2⟩
theorem vMj {E A na f fn as rs os ns X}{S:Nat→XD as→Option X}{pack unpack}(hE:wY E)(aW:yP6 E A na fn as rs os ns unpack S)
  (hL:wA E.P A 1000 na fn.ntmps (zS fn)) (hf:E.P.funcs[f]? =some fn:=by kernel_rfl) (hb:fn.body.isNone=false:=by kernel_rfl) (hn:(fn.name== "runtime.NumGoroutine")=false:=by kernel_rfl) (pO:E6 as na=true:=by kernel_rfl) (sE:(!as.any AX.isChn||A.loops.isEmpty)=true:=by kernel_rfl) (iw:∀d,pack (unpack d)=d:=by intro d;rfl):
  zD E.P (f,fun k nm args h=>oe as rs os ns (S k) pack nm args h):=
 ⟨fun k _ _ _ _ _ hy=>vP4 hE.ok hE.loc hE.ord hf (body_loops hL) (Jy hf hb hn) iw pO sE (aW k) hy,yQs⟩
theorem vK6 {E A na f fn sh t rs X}{S:Nat→List t.den→Option X}{pack unpack}(hE:wY E)(cA:∀k,ja E A k 1000 na fn [.c .nsl] (jw []) (kB rs unpack)=S k [])
  (aW:∀k xs,ja E A k 1000 na fn [.c (.nfl sh t xs)] (jw []) (kB rs unpack)=S k xs) (hL:wA E.P A 1000 na fn.ntmps (zS fn)) (hf:E.P.funcs[f]? =some fn:=by kernel_rfl) (hb:fn.body.isNone=false:=by kernel_rfl) (hn:(fn.name== "runtime.NumGoroutine")=false:=by kernel_rfl) (iw:∀d,pack (unpack d)=d:=by intro d;rfl):
  zD E.P (f,fun k nm args h=>lX [.c (.dat sh t)] rs (fun d=>S k d.1) pack nm args h):=
 ⟨fun k _ _ _ _ _ hy=>vA8 hE.ok hE.loc hE.ord hf (body_loops hL) (Jy hf hb hn) iw (fun x hx=>(cA k).trans hx) (by grind) hy,qT2⟩
def As (k:Nat)(a b c:Int):Option (Int×Int):=
 bif decide (c=0) then some (Int.ofNat ((a.toNat+b.toNat+0)%18446744073709551616),Int.ofNat ((a.toNat+b.toNat+0)/18446744073709551616)) else none
def JM:lZ:=fun k nm args h=>match args with
 |[.c (.int .u64 a),.c (.int .u64 b),.c (.int .u64 c)]=>.call (Int×Int) (As k a b c) (fun r=>(.tup [(false,[.int .u64 r.1]),(false,[.int .u64 r.2])],[]))
 |_=>.stuck
theorem vK0 {P} a b w:
  (add64Entry #[.int .u64 a,.int .u64 b,.int .u64 0]).run P w=.ok (.tuple #[.int .u64 (Int.ofNat ((a.toNat+b.toNat+0)%18446744073709551616)),.int .u64 (Int.ofNat ((a.toNat+b.toNat+0)/18446744073709551616))]) w:=rfl
theorem vCh {P f fn}(hf:P.funcs[f]? =some fn:=by kernel_rfl) (mU:(fn.name== "runtime.NumGoroutine")=false:=by kernel_rfl) (hb:fn.body.isNone=true:=by kernel_rfl)
  (hn:Extern.findNext fn=none:=by kernel_rfl) (he:Extern.find fn=some add64Entry:=by kernel_rfl):
  zD P (f,JM):=by
 refine⟨fun k nm args h v u hy=>?_,fun _ _ _ _ _ _ _=>rfl⟩;intro M w vs hh hH ok hv;refine .inr ?_;replace hy:yC (JM k nm args h) v u:=hy;unfold JM at hy;split at hy
 ·rename_i a b c;obtain⟨x,hx,rfl,rfl⟩:=hy
  match hl:vs.toList,hv with
  |[v1,v2,v3],hv=>
   obtain⟨h1,h2,h3,_⟩:=hv;cases h1;cases h2;cases h3;obtain rfl:vs=#[.int .u64 a,.int .u64 b,.int .u64 c]:=by grind
   obtain⟨hc,hx⟩:=vQ hx;cases hx;have hc:c=0:=by simp_all
   subst hc;refine⟨.tuple #[.int .u64 (Int.ofNat ((a.toNat+b.toNat+0)%18446744073709551616)),.int .u64 (Int.ofNat ((a.toNat+b.toNat+0)/18446744073709551616))],w,M,?_,⟨rfl,rfl,rfl,hH,rfl,ok,.refl M⟩,?_⟩
   ·rw[run_callFunc_extern hf mU hb hn he,vK0 a b w];rfl
   ·exact⟨#[.int .u64 (Int.ofNat ((a.toNat+b.toNat+0)%18446744073709551616)),.int .u64 (Int.ofNat ((a.toNat+b.toNat+0)/18446744073709551616))],rfl,rfl,rfl,trivial⟩
 ·exact hy.elim
abbrev sP (d i:Nat):Nat×VS:=(d,.c (.lit (.ptr (1001000+i) 0)))
abbrev sO (d i:Nat):Nat×VS:=(d,.c (.lit (.osl (1001000+i) none)))
abbrev sI (d:Nat):Nat×VS:=(d,.c (.int .i64))
abbrev oB (l:List CS):OS:=.box true l
abbrev oA (t:Ty):OS:=.arr true t
abbrev sp (l:List (Nat×VS))(o:List OS):zE:=⟨l,o,[]⟩
def zJ (f:Nat)(as:List AS)(rs:RS){X:Type}(s:Nat→AD as→Option X)(pk:X→RL rs.cells)(_:RL rs.cells→X):Nat×lZ:=(f,fun k nm args h=>lX as rs (s k) pk nm args h)
def vX (f:Nat)(as:List AX)(rs:RS)(os:List (List RC))(ns:Nat){X:Type}(s:Nat→XD as→Option X)(pk:X→RL (rs.cells++os.flatten))(_:RL (rs.cells++os.flatten)→X):Nat×lZ:=(f,fun k nm args h=>oe as rs os ns (s k) pk nm args h)
theorem fA {E:Env}(fn:Func)(A:zY){f:Nat}{as:List AS}{rs:RS}{X:Type}{s:Nat→AD as→Option X}{pk:X→RL rs.cells}{up:RL rs.cells→X}(hE:wY E)(hL:wA E.P A 1000 0 fn.ntmps (zS fn))
  (aW:PR E A 0 fn as rs up s:=by intro k d;kernel_rfl)
  (hf:E.P.funcs[f]? =some fn:=by kernel_rfl) (hb:fn.body.isNone=false:=by kernel_rfl) (hn:(fn.name== "runtime.NumGoroutine")=false:=by kernel_rfl) (iw:∀d,pk (up d)=d:=by intro d;rfl):
  zD E.P (zJ f as rs s pk up):=vMf hE aW hL hf hb hn iw
theorem fX {E:Env}(fn:Func)(A:zY)(na:Nat){f:Nat}{as:List AX}{rs:RS}{os:List (List RC)}{ns:Nat}{X:Type}{s:Nat→XD as→Option X}{pk:X→RL (rs.cells++os.flatten)}{up:RL (rs.cells++os.flatten)→X}(hE:wY E)(hL:wA E.P A 1000 na fn.ntmps (zS fn))
  (aW:yP6 E A na fn as rs os ns up s:=by intro k d;kernel_rfl)
  (hf:E.P.funcs[f]? =some fn:=by kernel_rfl) (hb:fn.body.isNone=false:=by kernel_rfl) (hn:(fn.name== "runtime.NumGoroutine")=false:=by kernel_rfl) (pO:E6 as na=true:=by kernel_rfl) (sE:(!as.any AX.isChn||A.loops.isEmpty)=true:=by kernel_rfl) (iw:∀d,pk (up d)=d:=by intro d;rfl):
  zD E.P (vX f as rs os ns s pk up):=vMj hE aW hL hf hb hn pO sE iw
def vv (f:Nat)(sh:Bool)(t:Ty)(r:RC)(s:Nat→List t.den→Option r.den):Nat×lZ:=
 (f,fun k nm args h=>lX [.c (.dat sh t)] (.c r) (fun d=>s k d.1) (fun x=>(x,())) nm args h)
theorem fC {E:Env}(fn:Func)(A:zY){f:Nat}{sh:Bool}{t:Ty}{r:RC}{s:Nat→List t.den→Option r.den}(hE:wY E)(hL:wA E.P A 1000 0 fn.ntmps (zS fn))
  (cA:∀k,ja E A k 1000 0 fn [.c .nsl] (jw []) (kB (.c r) (fun d=>d.1))=s k []:=by intro k;kernel_rfl)
  (aW:∀k xs,ja E A k 1000 0 fn [.c (.nfl sh t xs)] (jw []) (kB (.c r) (fun d=>d.1))=s k xs:=by intro k xs;kernel_rfl)
  (hf:E.P.funcs[f]? =some fn:=by kernel_rfl) (hb:fn.body.isNone=false:=by kernel_rfl) (hn:(fn.name== "runtime.NumGoroutine")=false:=by kernel_rfl):zD E.P (vv f sh t r s):=
 vK6 (rs:=.c r) (pack:=fun x=>(x,())) (unpack:=fun d=>d.1) hE cA aW hL hf hb hn
def vH {T:Type}(z:T)(b:T→T):Nat→T
 |0=>z
 |n+1=>b (vH z b n)
theorem lp {E:Env}{A:zY}{na nt:Nat}{b:Code}(L:zX){Y:Type}(ko:rN L.outs→L.X)(c:Y→pb L.ins→Option L.X)(f:Nat→Nat→Y)(bf:Nat→Y→Y)(hE:wY E)(hL:wA E.P A 1000 na nt b)
  (hs:yEl E A na nt b L.ins L.outs ko c bf:=by intro k rec d;kernel_rfl)
  (hX:∀o R K,L.elim (1000+fD) (ko o) R K=yt (1000+fD) L.outs o K:=by intro o R K;first|rfl|(rcases o with o|o<;>rfl)|(rcases o with o|o|o<;>rfl)|(rcases o with o|o|o|o<;>rfl)|(rcases o with o|o|o|o|o<;>rfl))
  (h0:∀k d,c (f k 0) d=none:=by intros;rfl) (h1:∀k n,f k (n+1)=bf k (f k n):=by intros;rfl) (hf:(⟨L.ins,L.outs,L.X,fun k d=>c (f k k) d,L.elim⟩:zX)=L:=by rfl):zU E.P 1000 na nt b L:=by
 rw[←hf];exact vCw hE hs f _ hX hL h0 h1
def ins {α:Type}(b:Nat)(xs:List α)(i:Int)(ys:List α):Option (List α):=
 bif decide (0≤i)&&decide (i≤(xs.length:Int))&&Nat.beq ys.length 1&&zR (xs.length+1) b then some (xs.take i.toNat++(ys++xs.drop i.toNat)) else none
end Go.Ab
