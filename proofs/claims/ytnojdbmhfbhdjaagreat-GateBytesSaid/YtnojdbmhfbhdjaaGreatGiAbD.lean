/- part 3 -/
import Derived.Test.YtnojdbmhfbhdjaaGreatGiAbC
import Derived.Laws.Externs
set_option linter.unusedVariables false
set_option linter.unusedSimpArgs false
set_option linter.unusedSectionVars false
namespace Go.Ab
theorem vIz:∀a b,vQ (a++b)=vQ a++vQ b
 |[],_=>rfl
 |(true,_)::a,b
 |(false,_)::a,b=>by simp[vQ,vIz a b]
theorem Km {h}:∀{ls is cs bs},kb h ls is=some (cs,bs)→∀id∈vQ bs,∃o,h id=some o∧o.owned=true
 |[],[],_,_,e=>by cases e;nofun
 |(io,l)::ls,i::is,cs,bs,e=>by
  unfold kb at e;split at e
  ·rename_i cells rest Bx h1 h2;obtain⟨_,e⟩:=wM e;cases e;intro id an;cases io with
   |false=>exact Km h2 id an
   |true=>
    rcases List.mem_cons.1 an with rfl|an
    ·unfold Ez at h1;split at h1
     ·rename_i c hc;exact⟨_,hc,rfl⟩
     all_goals simp_all
    ·exact Km h2 id an
  ·cases e
theorem Xd {h}{s:AX}{a cs bs}(e:s.get h a=some (cs,bs)):∀id∈vQ bs,∃o,h id=some o∧o.owned=true:=by
 unfold AX.get at e;split at e
 ·cases e;nofun
 ·obtain⟨_,e⟩:=wM e;cases e;nofun
 ·exact Km e
 ·obtain⟨_,e⟩:=wM e;exact Km e
 ·split at e
  ·exact Km e
  ·cases e
 ·cases e
theorem yZu {h}:∀{l as cs bs},kL h l as=some (cs,bs)→l.length=as.length∧∀id∈vQ bs,∃o,h id=some o∧o.owned=true
 |[],[],_,_,e=>by cases e;exact⟨rfl,nofun⟩
 |s::l,a::as,cs,bs,e=>by
  unfold kL at e;split at e
  ·rename_i c1 b1 c2 b2 h1 h2;cases e;obtain⟨k1,k2⟩:=yZu h2;refine⟨by simp[k1],fun id an=>?_⟩;rw[vIz] at an;rcases List.mem_append.1 an with an|an
   ·exact Xd h1 id an
   simp_all
  ·cases e
theorem yIi {h}:∀{l cs d},qa h l cs=some d→∀id∈jS l cs,∃o,h id=some o∧o.owned=true
 |[],[],_,_=>nofun
 |x::l,c::cs,d,e=>by
  unfold qa at e;split at e
  ·rename_i y ys h1 h2;have ih:=yIi h2;unfold Kc at h1;split at h1
   ·exact ih
   ·intro jd an;rcases List.mem_cons.1 an with rfl|an
    ·split at h1
     ·rename_i s xs hs;exact⟨_,hs,rfl⟩
     ·cases h1
    ·simp_all
   ·intro jd an;rcases List.mem_cons.1 an with rfl|an
    ·split at h1
     ·rename_i s xs hs;exact⟨_,hs,rfl⟩
     ·cases h1
    ·exact ih jd an
   ·intro jd an;rcases List.mem_cons.1 an with rfl|an
    ·split at h1
     ·rename_i xs hs;exact⟨_,hs,rfl⟩
     ·cases h1
    simp_all
   ·exact ih
   ·cases h1
  ·cases e
theorem yUo {a b}(h:W0 a b=true):∀id∈b,id∉a:=fun id hb ha=>by
 have h:=List.all_eq_true.1 h id ha;have:b.any (Nat.beq id)=true:=List.any_eq_true.2 ⟨id,hb,by simp⟩;simp_all
theorem yS9:∀os cs,(xv os cs).length=os.length
 |[],_=>rfl
 |_::os,cs=>by simp[xv,yS9 os]
theorem yF3 {M L}{P:zK→Nat→Prop}{R}:∀{ids js css Bs},zN (mg M L) ids js→pb R js css Bs→pb (fun id cs B=>∃jd,mg M L id jd∧R jd cs B) ids css Bs
 |[],[],[],[],_,_=>trivial
 |_::_,_::_,_::_,_::_,h,k=>⟨⟨_,h.1,k.1⟩,yF3 (P:=P) h.2 k.2⟩
theorem zK.gone_ok {M}(ok:Ok M){nm}(aU:M.h nm=none) C:
  Ok (M.add nm .gone C)∧yS M (M.add nm .gone C)∧(∀b,qN (M.add nm .gone C) b→qN M b):=by
 have x:yS M (M.add nm .gone C):=⟨fun id D h=>by
  have bx:id≠nm:=fun e=>by rw[e,ok.non nm aU] at h;cases h
  exact⟨D,by show κset M.κ nm _ id=_;rw[κset_ne _ _ bx];exact h,D.le_refl⟩,fun _ h=>h,fun _ h=>h,fun _ _=>rfl,fun _ _=>rfl,fun _ _=>rfl⟩
 have at':∀o,(M.add nm .gone C).h nm=some o→o=.gone:=fun o h=>by
  have e1:(M.add nm .gone C).h nm=some .gone:=yR _ _ _;simp_all
 refine⟨Ok.build ok x (fun id=>id=nm) (fun id h=>yV _ _ h) (fun id h=>κset_ne _ _ h) (fun _ _ _ _ _ _ _ _ _=>rfl) (fun id o' D h1 h2 h3 h4 b bg=>(ok.own b ⟨id,o',D,h2,h3,h4,bg⟩).1) (Nat.le_refl _)
  (fun id o' e h=>?_) (fun id e h=>?_) (fun id o' D b e h1 h2 h3 h4=>?_) ok.GF ok.Flt,x,fun b bg=>?_⟩
 ·subst e;rw[at' o' h];exact⟨_,κset_same _ _ _,trivial⟩
 ·have e1:(M.add id .gone C).h id=some .gone:=yR _ _ _;simp_all
 ·subst e;rw[at' o' h1] at h2;cases h2
 ·obtain⟨id,o',D,h1,h2,h3,h4⟩:=bg;by_cases e:id=nm
  ·subst e;rw[at' o' h1] at h2;cases h2
  ·exact⟨id,o',D,by rw[←h1];exact(yV _ _ e).symm,h2,by rw[←h3];exact(κset_ne _ _ e).symm,h4⟩
theorem yQm:∀{n nm Bs M},Ok M→(∀i,i<n→M.h (nm+i)=none)→Bs.length=n→
  ∃M':zK,M'.H=M.H∧M'.G=M.G∧M'.F=M.F∧M'.h=qH M.h (qb (me nm n))∧Ok M'∧yS M M'∧(∀b,qN M' b→qN M b)∧zN (fun id B=>∃C,M'.κ id=some C∧C.blk=some B) (me nm n) Bs
 |0,nm,[],M,ok,_,_=>⟨M,rfl,rfl,rfl,rfl,ok,.refl M,by simp,trivial⟩
 |n+1,nm,B::Bs,M,ok,hf,hl=>by
  obtain⟨k1,k2,k3⟩:=zK.gone_ok ok (hf 0 (by omega)) ⟨some B,0,0,0,[]⟩;obtain ⟨M', a1, a2, a3, a4, a5, a6, a7, a8⟩ := yQm (n := n) (nm := nm + 1) (Bs := Bs) k1 (fun i hi=>by
   have:=hf (i+1) (by omega);rw[show nm+1+i=nm+(i+1) by omega,←this];exact yV _ _ (by omega)) (by simp_all)
  refine⟨M',a1,a2,a3,a4,a5,yS.trans (M:=M) (M':=M.add nm .gone ⟨some B,0,0,0,[]⟩) (Nat.le_refl _) k2 a6,by grind,?_,a8⟩;obtain⟨C,h1,h2⟩:=a6.κ nm _ (κset_same _ _ _);exact⟨C,h1,h2.blk⟩
theorem Xe {L M ids js}(hs:zN (mg M L) ids js):∀{l cs ds vs},sA l js cs=true→zN (zX L) cs vs→zN (zX M) ds vs→zN (zX M) (Bw l ids ds) vs
 |[],cs,ds,vs,_,_,hd=>by exact hd
 |none::l,[],[],[],_,_,_=>trivial
 |none::l,c::cs,d::ds,v::vs,h,hc,hd=>⟨hd.1,Xe hs (l:=l) h hc.2 hd.2⟩
 |some j::l,c::cs,d::ds,v::vs,h,hc,hd=>by
  obtain⟨id,rfl,an,h'⟩:=yVe h;refine⟨?_,Xe hs h' hc.2 hd.2⟩;have hj:=(List.getElem?_eq_some_iff.1 an).1;have hi:j<ids.length:=by rw[hs.length];exact hj
  have:=hs.get j hi hj;rw[(List.getElem?_eq_some_iff.1 an).2] at this;obtain⟨C,D,B,q1,q2,q3,q4⟩:=this;obtain⟨D',B',p1,p2,p3⟩:=hc.1;rw[q3] at p1;cases p1;rw[q4] at p2;cases p2;rw[List.getElem?_eq_getElem hi];exact⟨C,B,q1,q2,p3⟩
 |_,[],_::_,[],_,_,hd=>hd.elim
 |_,_::_,[],[],_,hc,_=>hc.elim
theorem vVp {h ns cs nw}(e:WY h ns cs=some nw):nw.length=ns:=by
 unfold WY at e;cases h0:Nat.beq ns 0 with
 |true=>simp_all
 |false=>
  rw[h0] at e;split at e
  ·exact(W4 e).2
  ·cases e
def Pg (w:World)(na:Nat)(chn:Bool)(M:zK)(vs:Array Value)(rv:Value)(w':World)(v:zW)(st:St):Prop:=
 ∃M':zK,M'.h=st.h∧M'.H=w'.heap∧Ok M'∧ka M M'∧(chn=true→OU M M')∧zV M' v rv∧w'.os=w.os∧w'.tape=w.tape∧w'.output=w.output∧(∀t,t<na→zV M' (st.t t) (vs.getD t undef))
theorem yNh {n}:∀{l nm d hh},(∀j,j<l.length→n≠nm+j)→qH hh (oW nm l d).2 n=hh n
 |[],_,_,_,_=>rfl
 |r::l,nm,d,hh,h=>by
  show qH hh ((so nm r d.1).2++(oW (nm+1) l d.2).2) n=_;rw[ll,yNh fun j hj=>by have:=h (j+1) (by simp_all);omega,yUv (by have:=h 0 (by simp);omega)]
theorem Xf {M}(ok:Ok M){io id cells}(h:Ez M.h io id=some cells):∃C B,M.κ id=some C∧C.blk=some B:=by
 have h':Ep M.h id=some cells:=by
  unfold Ez at h;unfold Ep;grind
 obtain⟨C,h1,B,_,_,h2,_⟩:=yWj ok h';simp_all
theorem Ph {M}(ok:Ok M):∀{ls is cs bs},kb M.h ls is=some (cs,bs)→∀q∈bs,∃C B,M.κ q.2=some C∧C.blk=some B
 |[],[],_,_,e=>by cases e;simp
 |(io,l)::ls,i::is,cs,bs,e=>by
  unfold kb at e;split at e
  ·rename_i cells rest Bx h1 h2;obtain⟨_,e⟩:=wM e;cases e;intro q hq;rcases List.mem_cons.1 hq with rfl|hq
   ·exact Xf ok h1
   ·exact Ph ok h2 q hq
  ·cases e
theorem yZg {M}(ok:Ok M):∀{l as cs bs},kL M.h l as=some (cs,bs)→∀q∈bs,∃C B,M.κ q.2=some C∧C.blk=some B
 |[],[],_,_,e=>by cases e;simp
 |s::l,a::as,cs,bs,e=>by
  unfold kL at e;split at e
  ·rename_i c1 b1 c2 b2 h1 h2;cases e;intro q hq;rcases List.mem_append.1 hq with hq|hq
   ·unfold AX.get at h1;split at h1
    ·simp_all
    ·grind
    ·exact Ph ok h1 q hq
    ·obtain⟨_,h1⟩:=wM h1;exact Ph ok h1 q hq
    ·split at h1
     ·exact Ph ok h1 q hq
     ·cases h1
    ·cases h1
   ·exact yZg ok h2 q hq
  ·cases e
theorem yP1 {L}(ok:Ok L):∀{os ids bs},EA L.h os ids=some bs→∀j∈ids,∃cells C B,L.h j=some (.box true cells)∧L.κ j=some C∧C.blk=some B
 |[],[],_,_=>by simp
 |o::os,n::ns,bs,h=>by
  unfold EA at h;split at h
  ·rename_i cells rest h1 h2;intro j hj;rcases List.mem_cons.1 hj with rfl|hj
   ·obtain⟨C,hC,B,vals,e,q1,_⟩:=ok.obj _ _ h1;simp_all
   ·exact yP1 ok h2 j hj
  ·cases h
theorem yNn {L}(ok:Ok L):∀{js:List Nat},js.Nodup→(∀j∈js,∃cells C B,L.h j=some (.box true cells)∧L.κ j=some C∧C.blk=some B)→(js.map fun id=>((L.κ id).bind qC.blk).getD 0).Nodup
 |[],_,_=>by simp
 |a::js,hn,bn=>by
  obtain⟨n1,n2⟩:=List.nodup_cons.1 hn;refine List.nodup_cons.2 ⟨fun pc=>?_,yNn ok n2 (by grind)⟩;obtain⟨j,hj,BC⟩:=List.mem_map.1 pc;obtain⟨c1',C,B,q1,q2,q3⟩:=bn a (by simp);obtain⟨c2',D,B',q4,q5,q6⟩:=bn j (by grind);have BC:((L.κ j).bind qC.blk).getD 0=((L.κ a).bind qC.blk).getD 0:=BC;rw[q2,q5] at BC;have BC:(D.blk.getD 0)=(C.blk.getD 0):=BC;rw[q3,q6] at BC;subst BC;exact ok.disj a j _ _ C D B' (by grind) q1 q4 rfl rfl q2 q5 (by simp[qC.fp,q3]) (by simp[qC.fp,q6])
theorem yOo {na as}(kN:uo as na=true){nm n args h u0 io rows d}(he:Bz as nm n args h=some (u0,io,rows,d)) M w vs (hh:M.h=h)(hH:M.H=w.heap)(ok:Ok M)(hv:zN (zV M) args vs.toList):
  ∃Ml:zK,Ml.h=(kM as d).2∧Ml.H=w.heap∧Ok Ml∧zN (zV Ml) (kM as d).1 vs.toList∧
   ∀rv w' v0 st,Pg w na (as.any AX.isChn) Ml vs rv w' v0 st→∀rs os ns dx,xu st as rs os ns v0=some dx→(rs.cells++os.flatten).length+ns≤n→
    ∃Mf,tY M w (Kj u0 io rows rs os ns nm dx).2 Mf w'∧zV Mf (Kj u0 io rows rs os ns nm dx).1 rv:=by
 unfold Bz at he;split at he
 ·cases he
 rename_i eP u Bt;split at he
 ·cases he
 rename_i cs bs dm;split at he
 ·cases he
 rename_i d' hd;dsimp only at he;obtain⟨hc,he⟩:=nN he;cases he;simp only[Bool.and_eq_true] at hc;obtain⟨⟨⟨⟨⟨⟨nT,dq⟩,dP⟩,gY⟩,mU⟩,EE⟩,EF⟩:=hc;subst hh;obtain⟨M1,a1,a2,a3,a4,a5,a6⟩:=vAb ok (jD.refl _) hv Bt;rw[←a2] at hd dm;obtain⟨agN,lZ⟩:=yZu dm;have aT:=yIi hd;have eu:nS M1 (vQ bs++jS (as.flatMap AX.cells) cs):=fun id an=>(List.mem_append.1 an).elim (lZ id) (aT id)
 have Xg:=Ee gY;obtain⟨Ml,lo,b2,b3,b4,b5,b6⟩:=W6 a3 a5 dm hd Xg (yUo mU) (yUo EE) (Nat.le_of_ble_eq_true dP) EF eu;generalize iC:vQ bs++jS (as.flatMap AX.cells) cs=aq at*
 refine⟨Ml,b2,by rw[lo.H,a1];exact hH,b3,b5,fun rv w' v0 st ⟨L0,c1,c2,c3,c4,ck,c5,c6,c7,c8,c9⟩ rs os ns dx hK hn=>?_⟩;unfold xu at hK;split at hK
 ·cases hK
 rename_i Xh kE;split at hK
 ·cases hK
 rename_i ccs nP;split at hK
 ·cases hK
 rename_i nw hnw;split at hK
 ·cases hK
 rename_i bcs uw;obtain⟨Kn,Pj⟩:=nN hK;clear hK;split at Pj
 case h_2=>cases Pj
 rename_i aS u1 ui;obtain⟨dM,hK⟩:=nN Pj;clear Pj;rw[Bool.and_eq_true] at dM;obtain⟨dM,Ko⟩:=dM;have Xi:=vVp hnw;obtain⟨hlen,us,d1,d2⟩:=yUb nP c5;rw[←c1] at ui hK uw;obtain⟨js,w8⟩:∃js,js=Xh++nw:=⟨_,rfl⟩;rw[←w8] at uw Kn Ko;obtain⟨k1,k2,Pk,k3,k4⟩:=vB5 c3 uw;obtain⟨L,e1,e2,e3,e4,e5,e6⟩:=xm c3 (jD.refl _) (d1.append k3) ui;rw[←e2] at hK;have g:ka Ml L:=c4.trans e4.grow;obtain⟨f1,f2,f3⟩:=zK.overX_ok a3 e3 lo eu b4 g;have cU : zN (mg M1 L0) (vQ bs) Xh := yPy dm kE a5 (fun i hi s hs uu=>by
  have bJ:i<vs.size:=by simpa using hi
  have bd:i<na:=by
   have:=List.all_eq_true.1 kN (s,i) (List.mk_mem_zipIdx_iff_getElem?.2 hs);simp only[uu,Bool.not_true,Bool.false_or] at this;exact Uo this
  have:=c9 i bd;rw[Nat.zero_add];have e:vs.getD i undef=vs.toList[i]:=by simp[bJ]
  rw[←e];exact this) fun mV i q hq=>by
   obtain⟨C,B,p1,p2⟩:=yZg a3 dm q (List.mem_of_getElem? hq);have hi:i<bs.length:=(List.getElem?_eq_some_iff.1 hq).1;have hκ:Ml.κ i=some C:=by
    rw[b6];unfold κX;have:Nat.ble wN i=false:=by
     cases h:Nat.ble wN i with
     |false=>rfl
     |true=>have h1:=Nat.le_of_ble_eq_true h;have h2:=Nat.le_of_ble_eq_true dP;omega
    rw[this,hq];exact p1
   obtain⟨C',p3,p4⟩:=ck mV i C hκ;rw[Nat.zero_add];exact⟨C,C',B,p1,p2,p3,p4.trans p2⟩
 have qc:∀i,i<n→(M1.overX L aq).h (nm+i)=none:=fun i hi=>by
  have h1:=Wv nT i hi;have h2:M1.h (nm+i)=none:=by
   rw[a2];rcases a6 (nm+i) with h|⟨own,t,xs,h,_⟩|⟨ver,xs,h,_⟩
   ·rw[a2] at h;rw[h];exact h1
   ·rw[h1] at h;cases h
   ·rw[h1] at h;cases h
  show qH M1.h (qb aq) (nm+i)=none;rw[xy,if_neg,h2];intro pc;obtain⟨o,ho,_⟩:=eu _ pc;rw[h2] at ho;cases ho
 have pY:∀i,i<(rs.cells++os.flatten).length→(M1.overX L aq).h (nm+i)=none:=fun i hi=>qc i (by omega)
 have ux:∀b,qN L b→b<M1.H.size→lz M1 aq b:=fun b hb bd=>b4 b (g.own b hb (by rw[lo.H];exact bd))
 have xz:∀b,qN L b→¬(M1.overX L aq).F b:=fun b hb h=>by
  rcases h with h|h
  ·exact(ur a3 eu h).2 (ux b hb (a3.Flt b h))
  ·exact(e3.own b hb).1 (e3.GF b h)
 have xA:∀b,qN L b→¬qN (M1.overX L aq) b:=fun b hb h=>by
  obtain⟨q1,q2⟩:=f3 b h;exact q2 (ux b hb (a3.own b q1).2)
 obtain ⟨Mc, g1, g2, g3, g4, g5, g6, g7, g8⟩ := Ww e3 f1 ⟨rfl, rfl⟩ pY hK (Ee dM) (xo hK) (fun id an C hC b hb=>by
  obtain⟨o,ho,iS⟩:=xo hK id an;have aN:qN L b:=⟨id,o,C,ho,iS,hC,hb⟩;exact⟨xA b aN,xz b aN,(e3.own b aN).2⟩)
 obtain ⟨Mg, n1, n2, n3, n4, n5, n6, n7, n8⟩ := yQm (n := ns) (nm := nm + (rs.cells ++ os.flatten).length) (Bs := nw.map fun id => ((L0.κ id).bind qC.blk).getD 0) g5 (fun i hi=>by
  rw[g4,yNh (fun j hj=>by omega),Nat.add_assoc];exact qc _ (by omega)) (by simp[Xi])
 have qd:∀j∈js,∃cells C B,L0.h j=some (.box true cells)∧L0.κ j=some C∧C.blk=some B:=yP1 c3 uw;have Pl:yS M1 Mg:=(f2.ext.trans f2.size g6).trans (by rw[g1];exact f2.size) n6;have Ej:zN (mg Mg L0) (vQ bs) Xh:=cU.mono fun id jd hq=>by
  obtain⟨C,D,B,q1,q2,q3,q4⟩:=hq;obtain⟨C',p3,le⟩:=Pl.κ id C q1;exact⟨C',D,B,p3,le.blk.trans q2,q3,q4⟩
 have EG:zN (mg Mg L0) (me (nm+(rs.cells++os.flatten).length) ns) nw:=by
  have hl8:=n8.length;rw[List.length_map] at hl8;refine zN.of_get hl8 fun i h1 h2=>?_
  obtain⟨C,q1,q2⟩:=n8.get i h1 (by simpa using h2);obtain⟨cells,D,B,p1,p2,p3⟩:=qd nw[i] (by rw[w8];exact List.mem_append_right _ (List.getElem_mem _));refine⟨C,D,B,q1,?_,p2,p3⟩;rw[q2,List.getElem_map,p2];show some (D.blk.getD 0)=_;rw[p3];rfl
 have mh:zN (mg Mg L0) (vQ bs++me (nm+(rs.cells++os.flatten).length) ns) js:=by
  rw[w8];exact Ej.append EG
 have uy:zN (mg Mg L) (vQ bs++me (nm+(rs.cells++os.flatten).length) ns) js:=mh.mono fun id jd hq=>by
  obtain⟨C,D,B,q1,q2,q3,q4⟩:=hq;obtain⟨D',p3,le⟩:=e4.ext.κ jd D q3;exact⟨C,D',B,q1,q2,p3,le.blk.trans q4⟩
 have BD:=Xe uy Ko e5 ((g8 _ e5).mono fun _ _ h=>h.ext n6);obtain⟨G,hG⟩:∃G,G=Bw ((rs.cells++os.flatten).map RC.lnk) (vQ bs++me (nm+(rs.cells++os.flatten).length) ns) (oW nm (rs.cells++os.flatten) dx).1:=⟨_,rfl⟩;rw[←hG] at BD;have D7:us.length=rs.cells.length:=by rw[←d1.length,hlen]
 have hgr:zN (zX Mg) (G.take rs.cells.length) us:=by
  have:=zN.take rs.cells.length BD
  rwa [show(us++Pk).take rs.cells.length=us from by rw[←D7,List.take_left]] at this
 have hgb:zN (zX Mg) (G.drop rs.cells.length) Pk:=by
  have:=zN.drop rs.cells.length BD
  rwa [show(us++Pk).drop rs.cells.length=Pk from by rw[←D7,List.drop_left]] at this
 have hHc:Mg.H=L0.H:=by rw[n1,g1];exact e1
 have Kp:=yF3 (P:=fun _ _=>True) mh (k4 hHc hgb);have xB:∀jd B,(∃cells,L0.h jd=some (.box true cells))→(∃C,L0.κ jd=some C∧C.blk=some B)→∃cells C,L.h jd=some (.box true cells)∧L.κ jd=some C∧B∈C.fp:=fun jd B ⟨cells,q1⟩ ⟨C,q2,q3⟩=>by
  obtain⟨C',q4,le⟩:=e4.ext.κ jd C q2;refine⟨cells,C',?_,q4,?_⟩
  ·rcases e6 jd with h|⟨own,t,xs,h,_⟩|⟨ver,xs,h,_⟩
   ·rw[h,q1]
   ·rw[q1] at h;cases h
   ·rw[q1] at h;cases h
  ·have:C'.blk=some B:=le.blk.trans q3;simp[qC.fp,this]
 have Kq:∀b,b∈(js.map fun id=>((L0.κ id).bind qC.blk).getD 0)→qN L b:=fun b hb=>by
  obtain⟨j,hj,rfl⟩:=List.mem_map.1 hb;obtain⟨cells,C,B,q1,q2,q3⟩:=qd j hj;obtain⟨bH,D,p4,p5,p6⟩:=xB j B ⟨cells,q1⟩ ⟨C,q2,q3⟩;have e:((L0.κ j).bind qC.blk).getD 0=B:=by rw[q2];show C.blk.getD 0=B;rw[q3];rfl
  rw[e];exact⟨j,_,D,p4,rfl,p5,p6⟩
 have BE : pb (yKt Mg) (vQ bs ++ me (nm + (rs.cells ++ os.flatten).length) ns) (xv os (G.drop rs.cells.length)) (js.map fun id => ((L0.κ id).bind qC.blk).getD 0) := pb.mono (fun id css B _ ⟨jd,q1,q2,⟨D0,q3,q3b,_⟩,q4⟩=>by
  obtain⟨C,D1,B',p1,p2,p3,p3b⟩:=q1;rw[q3] at p3;cases p3;rw[q3b] at p3b;cases p3b;obtain⟨cells,D,p4,p5,p6⟩:=xB jd B q2 ⟨_,q3,q3b⟩;have aN:qN L B:=⟨jd,_,D,p4,rfl,p5,p6⟩;refine⟨⟨C,p1,p2⟩,q4,fun ho=>?_,?_⟩
  ·rcases g7 B (n7 B ho) with h|⟨kd,Kr,D',p7,p8⟩
   ·exact xA B aN h
   ·obtain⟨o,p9,uv⟩:=xo hK kd Kr;refine e3.disj jd kd _ o D D' B (fun e=>?_) p4 p9 rfl uv p5 p7 p6 p8;exact vFt hK kd Kr true cells (by rw[←e];exact p4)
  ·rw[n3,g3];exact xz B aN) Kp
 have hBs:(js.map fun id=>((L0.κ id).bind qC.blk).getD 0).Nodup:=yNn c3 (Ee Kn) qd;obtain⟨Mf,r1,r2,r3,r4,r5,r6,r7⟩:=yQ1 n5 BE hBs;have xp:yO M1 Mf:=by
  have aN:∀b,qN Mf b→b<M1.H.size→qN M1 b:=fun b hb bd=>by
   rcases r7 b hb with hb|hb
   ·rcases g7 b (n7 b hb) with h|⟨id,an,C,hC,Es⟩
    ·exact(f3 b h).1
    ·obtain⟨o,ho,iS⟩:=xo hK id an;exact(ux b ⟨id,o,C,ho,iS,hC,Es⟩ bd).own eu
   ·exact(ux b (Kq b hb) bd).own eu
  have O5:Mf.H=(M1.overX L aq).H:=r1.trans (n1.trans g1);refine⟨Pl.trans ?_ r6,?_,fun b hb hn=>?_,aN,fun b hb bd=>?_,fun b hb bd=>?_⟩
  ·rw[n1,g1];exact f2.size
  ·rw[O5];exact f2.size
  ·rw[O5];exact f2.frame b hb hn
  ·rw[r2,n2,g2] at hb;exact f2.Gb b hb bd
  ·rw[r3,n3,g3] at hb;exact f2.Fb b hb bd
 have qe:(vQ bs++me (nm+(rs.cells++os.flatten).length) ns).length=(xv os (G.drop rs.cells.length)).length:=by
  rw[yS9,mh.length,k2]
 refine⟨Mf,⟨c6,c7,c8,?_,?_,r5,a4.trans xp⟩,?_⟩
 ·rw[r1,n1,g1];show L.H=_;rw[e1,c2]
 ·rw[r4,n4,g4];show _=qH M.h (u0++(qb (jS (as.flatMap AX.cells) cs)++((oW nm (rs.cells++os.flatten) dx).2++EB (vQ bs++me (nm+(rs.cells++os.flatten).length) ns) (xv os ((Bw ((rs.cells++os.flatten).map RC.lnk) (vQ bs++me (nm+(rs.cells++os.flatten).length) ns) (oW nm (rs.cells++os.flatten) dx).1).drop rs.cells.length)))));rw[←hG,ll,ll,ll,←a2];refine yPw qe fun m hm=>?_
  rw[List.mem_append,not_or] at hm;rw[xy,if_neg hm.2];refine Bj ?_;show qH M1.h (qb aq) m=_;rw[xy,xy,←iC];simp[hm.1]
 ·show zV Mf (rs.mk ((Bw ((rs.cells++os.flatten).map RC.lnk) (vQ bs++me (nm+(rs.cells++os.flatten).length) ns) (oW nm (rs.cells++os.flatten) dx).1).take rs.cells.length)) rv;rw[←hG];exact d2 Mf _ (hgr.mono fun _ _ h=>h.ext r6)
theorem yJj {P na f}(cd:∀vs w,(callFunc f vs).run P w=.ok (.enter f vs) w)
  {as rs os ns X} {S:XD as→Option X} {pack unpack} (fE:∀d,pack (unpack d)=d) (kN:uo as na=true)
  (mi:∀d x,S d=some x→∀M w vs,M.h=(kM as d).2→M.H=w.heap→Ok M→zN (zV M) (kM as d).1 vs.toList→Calls P f vs w fun
   |.returned rv,w'=>∃(v:zW) (st:St),Ki as rs os ns unpack v st=some x∧Pg w na (as.any AX.isChn) M vs rv w' v st
   |_,_=>False)
  {nm args h v u} (hy:yM (sC as rs os ns S pack nm args h) v u):tZ P f args h v u:=by
 intro M w vs hh hH ok hv;refine .inl ⟨cd vs w,?_⟩;unfold sC at hy;split at hy
 ·exact hy.elim
 rename_i u0 io rows d he;obtain⟨x,hx,rfl,rfl⟩:=hy;obtain⟨Ml,b1,b2,b3,b4,b5⟩:=yOo kN he M w vs hh hH ok hv;refine Calls.mono (mi d x hx Ml w vs b1 b2 b3 b4) fun e w' hl=>?_
 cases e with
 |panicked _=>omega
 |outgrown=>omega
 |returned rv=>
  obtain⟨v0,st,hK,hl⟩:=hl;have hK:xu st as rs os ns v0=some (pack x):=by
   unfold Ki at hK;grind
  grind
theorem Xj {P na f}(cd:∀vs w,(callFunc f vs).run P w=.ok (.enter f vs) w)
  {as rs dA os dB ns fF X Y} {S:XD as→Option (X⊕Y)} {pk up iU lv}
  (fE:∀d,pk (up d)=d) (nU:∀d,iU (lv d)=d) (kN:uo as na=true)
  (mi:∀d x,S d=some x→∀M w vs,M.h=(kM as d).2→M.H=w.heap→Ok M→zN (zV M) (kM as d).1 vs.toList→Calls P f vs w fun
   |.returned rv,w'=>∃(v:zW) (st:St),Pc as rs os ns dA dB fF up lv v st=some x∧Pg w na (as.any AX.isChn) M vs rv w' v st
   |_,_=>False)
  {nm args h v u} (hy:yM (uq as rs os ns dA dB fF S pk iU nm args h) v u):tZ P f args h v u:=by
 intro M w vs hh hH ok hv;refine .inl ⟨cd vs w,?_⟩;unfold uq at hy;split at hy
 ·exact hy.elim
 rename_i u0 io rows d he;obtain⟨Ml,b1,b2,b3,b4,b5⟩:=yOo kN he M w vs hh hH ok hv;rcases hy with⟨x,hx,rfl,rfl⟩|⟨x,hx,rfl,rfl⟩<;>
 ·refine Calls.mono (mi d _ hx Ml w vs b1 b2 b3 b4) fun e w' hl=>?_
  cases e with
  |panicked _=>omega
  |outgrown=>omega
  |returned rv=>
   obtain⟨v0,st,hK,hl⟩:=hl;unfold Pc at hK;grind
theorem yHw {E}(hE:gA E)(hS:j9 E.sums)(hm:E.P.follows .mixedOrders=true){A k pre na f fn}(hf:E.P.funcs[f]? =some fn)(hL:∀c,fn.body=some c→wK E.P A pre na fn.ntmps c){chn}(mV:(!chn||A.loops.isEmpty)=true)
  {R K} {x:R} {args h} (aV:kA E A k pre na fn args h K=some x) {M w vs} (h1:M.h=h) (h2:M.H=w.heap) (h3:Ok M) (h4:zN (zV M) args vs.toList):
  Calls E.P f vs w fun
   |.returned rv,w'=>∃(v:zW) (st:St),K v st=some x∧Pg w na chn M vs rv w' v st
   |_,_=>False:=by
 refine Calls.mono (Wi hE hS hm hf hL aV h1 h2 h3 h4) fun e w' hl=>?_
 cases e with
 |panicked _=>omega
 |outgrown=>omega
 |returned rv=>
  obtain⟨M',v,st,a1,a2,a3,a4,a5,a6,a7,a8,a9,Ks,a11⟩:=hl;refine⟨v,st,a1,M',a2,a3,a4,a5,fun hc=>a6 ?_,a7,a8,a9,Ks,a11⟩;simp_all
theorem Xk {E}(hE:gA E)(hS:j9 E.sums)(hm:E.P.follows .mixedOrders=true){A k pre na f fn}(hf:E.P.funcs[f]? =some fn)(hL:∀c,fn.body=some c→wK E.P A pre na fn.ntmps c)(cd:∀vs w,(callFunc f vs).run E.P w=.ok (.enter f vs) w)
  {as rs os ns X} {S:XD as→Option X} {pack unpack} (fE:∀d,pack (unpack d)=d) (kN:uo as na=true) (mV:(!as.any AX.isChn||A.loops.isEmpty)=true)
  (aV:∀d,kA E A k pre na fn (kM as d).1 (kM as d).2 (Ki as rs os ns unpack)=S d)
  {nm args h v u} (hy:yM (sC as rs os ns S pack nm args h) v u):tZ E.P f args h v u:=
 yJj cd fE kN (fun d x hx M w vs h1 h2 h3 h4=>yHw hE hS hm hf hL mV ((aV d).trans hx) h1 h2 h3 h4) hy
theorem Xl {E}(hE:gA E)(hS:j9 E.sums)(hm:E.P.follows .mixedOrders=true){A k pre na f fn}(hf:E.P.funcs[f]? =some fn)(hL:∀c,fn.body=some c→wK E.P A pre na fn.ntmps c)(cd:∀vs w,(callFunc f vs).run E.P w=.ok (.enter f vs) w)
  {as rs dA os dB ns fF X Y} {S:XD as→Option (X⊕Y)} {pk up iU lv}
  (fE:∀d,pk (up d)=d) (nU:∀d,iU (lv d)=d) (kN:uo as na=true) (mV:(!as.any AX.isChn||A.loops.isEmpty)=true)
  (aV:∀d,kA E A k pre na fn (kM as d).1 (kM as d).2 (Pc as rs os ns dA dB fF up lv)=S d)
  {nm args h v u} (hy:yM (uq as rs os ns dA dB fF S pk iU nm args h) v u):tZ E.P f args h v u:=
 Xj cd fE nU kN (fun d x hx M w vs h1 h2 h3 h4=>yHw hE hS hm hf hL mV ((aV d).trans hx) h1 h2 h3 h4) hy
section
variable {h h':Hp}
theorem Xm {x c}(hh:∀id∈vL c,h id=h' id):Kc h x c=Kc h' x c:=by
 unfold Kc;split
 ·exact vHq hh
 ·rename_i id;rw[hh id (by simp[vL])]
 ·rename_i id;rw[hh id (by simp[vL])]
 ·rename_i id;rw[hh id (by simp[vL])]
 ·rfl
 ·rfl
theorem vE1:∀{l cs},(∀id∈cs.flatMap vL,h id=h' id)→qa h l cs=qa h' l cs
 |[],[],_
 |[],_::_,_
 |_::_,[],_=>rfl
 |p::l,c::cs,hh=>by
  simp  at hh;unfold qa;rw[Xm fun id hi=>hh id (.inl hi),vE1 (by grind)]
theorem Xn {ls}:kb h ls []=kb h' ls []:=by
 cases ls<;>rfl
theorem Xo {s:AX}{a}(hb:wO a=false):s.get h a=s.get h' a:=by
 unfold AX.get;cases s with
 |c p=>grind
 |agg l=>grind
 |ptr io l=>
  cases a with
  |c x=>cases x<;>first|rfl|(exact absurd hb (by simp[wO]))
  |_=>rfl
 |fn f bA=>
  cases a with
  |c x=>cases x with
   |fn g ids=>
    cases ids with
    |nil=>dsimp only;rw[Xn]
    |cons _ _=>exact absurd hb (by nofun)
   |_=>rfl
  |_=>rfl
 |chn ls=>
  cases a with
  |c x=>cases x<;>first|rfl|(exact absurd hb (by nofun))
  |_=>rfl
theorem Xp {s:AX}{a cs bs}(hb:wO a=false)(e:s.get h a=some (cs,bs)):∀id∈cs.flatMap vL,id∈yT a:=by
 unfold AX.get at e;split at e
 ·cases e;intro id an;simp  at an;exact an
 ·obtain⟨_,e⟩:=wM e;cases e;exact fun id an=>an
 ·exact absurd hb (by nofun)
 ·rename_i f bA g ids;obtain⟨_,e⟩:=wM e;cases ids with
  |nil=>cases bA with
   |nil=>cases e;simp
   |cons _ _=>cases e
  |cons _ _=>exact absurd hb (by nofun)
 ·exact absurd hb (by nofun)
 ·cases e
theorem vAz:∀{l as},as.any wO=false→kL h l as=kL h' l as
 |[],[],_
 |[],_::_,_
 |_::_,[],_=>rfl
 |s::l,a::as,hb=>by
  simp only[List.any_cons,Bool.or_eq_false_iff] at hb;unfold kL;rw[Xo (h:=h) (h':=h') hb.1,vAz hb.2]
theorem yYp:∀{l as cs bs},as.any wO=false→kL h l as=some (cs,bs)→∀id∈cs.flatMap vL,id∈as.flatMap yT
 |[],[],cs,bs,_,e=>by cases e;simp
 |s::l,a::as,cs,bs,hb,e=>by
  simp only[List.any_cons,Bool.or_eq_false_iff] at hb;unfold kL at e;split at e
  ·rename_i c1 b1 c2 b2 e1 e2;cases e;intro id an;rw[List.flatMap_append,List.mem_append] at an;rw[List.flatMap_cons,List.mem_append];rcases an with an|an
   ·exact .inl (Xp hb.1 e1 id an)
   ·exact .inr (yYp hb.2 e2 id an)
  ·cases e
theorem Xq {s a}(hh:∀id∈yT a,h id=h' id):xw h s a=xw h' s a:=by
 unfold xw;split
 ·rename_i p x;have:=Eu (h:=h) (h':=h') (l:=[p.isKept]) (cs:=[x]) (by rw[Et];exact hh);simp_all
 ·rename_i l xs;have:=Eu (h:=h) (h':=h') (l:=l.map PC.isKept) (cs:=xs) hh;simp_all
 ·rfl
theorem Xr {s a a' u}(e:xw h s a=some (a',u)):(∀id∈yT a',id∈yT a)∧(wO a=false→wO a'=false):=by
 unfold xw at e;split at e
 ·rename_i p x;split at e
  ·rename_i y u1 e1;cases e;refine⟨fun id an=>by have:=Ev e1 id (by rw[Et];omega);rwa [Et] at this,fun hb=>?_⟩;cases hk:p.isKept with
   |false=>rw[hk] at e1;cases e1;exact hb
   |true=>
    rw[hk] at e1;unfold gD at e1;split at e1
    ·rename_i c1 u2 mQ rU e2 e3;cases e1;cases hy:wO (.c y) with
     |false=>rfl
     |true=>rw[(WI e2).2 hy] at hb;cases hb
    ·cases e1
  ·cases e
 ·split at e
  ·rename_i ys u1 e1;cases e;exact⟨Ev e1,fun _=>rfl⟩
  ·cases e
 simp_all
theorem vFr:∀{l as},(∀id∈as.flatMap yT,h id=h' id)→sB h l as=sB h' l as
 |[],as,_=>by rfl
 |_::_,[],_=>rfl
 |s::l,a::as,hh=>by
  simp  at hh;unfold sB;rw[Xq fun id hi=>hh id (.inl hi),vFr (by grind)]
theorem yUn:∀{l as fi u},sB h l as=some (fi,u)→(∀id∈fi.flatMap yT,id∈as.flatMap yT)∧(as.any wO=false→fi.any wO=false)
 |[],as,fi,u,e=>by cases as<;>cases e<;>exact by simp
 |s::l,[],fi,u,e=>by cases e;simp
 |s::l,a::as,fi,u,e=>by
  unfold sB at e;split at e
  ·rename_i a1 u1 WB rU e1 e2;obtain⟨k1,k2⟩:=Xr e1;obtain⟨k3,k4⟩:=yUn e2;grind
  ·cases e
theorem vB9 {as nm n args}(h1:args.any wO=false→∀id,(id∈args.flatMap yT∨nG nm id=true)→h id=h' id)(h2:args.any wO=true→h=h'):Bz as nm n args h=Bz as nm n args h':=by
 cases hb:args.any wO with
 |true=>rw[h2 hb]
 |false=>
  have hh:=h1 hb;unfold Bz;rw[vFr (h:=h) (h':=h') (by grind)];cases e:sB h' as args with
  |none=>rfl
  |some p=>
   obtain⟨eP,u⟩:=p;obtain⟨k1,k2⟩:=yUn e;dsimp only;rw[vAz (h:=qH h u) (h':=qH h' u) (k2 hb)];cases e2:kL (qH h' u) as eP with
   |none=>rfl
   |some q=>
    obtain⟨cs,bs⟩:=q;dsimp only;rw[vE1 (h:=qH h u) (h':=qH h' u) fun id an=>Bj (hh id (.inl (k1 id (yYp (k2 hb) e2 id an))))];cases qa (qH h' u) (as.flatMap AX.cells) cs with
    |none=>rfl
    |some d=>
     cases hle:Nat.ble n 100 with
     |false=>simp
     |true=>
      have hle:=Nat.le_of_ble_eq_true hle;rw [WK (h := h) (h' := h') fun i hi => hh _ (.inr (by
       simp only[nG,Bool.and_eq_true];exact⟨by simp,by simp[Nat.blt_eq];omega⟩))]
end
theorem yOi {as rs os ns X}{S:Nat→XD as→Option X}{pack}:J6 fun k nm args h=>sC as rs os ns (S k) pack nm args h:=by
 intro k nm args h h' h1 h2;show sC as rs os ns (S k) pack nm args h=sC as rs os ns (S k) pack nm args h';unfold sC;rw[vB9 h1 h2]
theorem Xs {as rs dA os dB ns fF X Y}{S:Nat→XD as→Option (X⊕Y)}{pk iU}:J6 fun k nm args h=>uq as rs os ns dA dB fF (S k) pk iU nm args h:=by
 intro k nm args h h' h1 h2;show uq as rs os ns dA dB fF (S k) pk iU nm args h=uq as rs os ns dA dB fF (S k) pk iU nm args h';unfold uq;rw[vB9 h1 h2]
structure zC (P:Program) (r:Nat×nQ):Prop where
 ok:yL8 P r
 loc:J6 r.2
def EH (P:Program):List (Nat×nQ)→Prop
 |[]=>True
 |r::l=>zC P r∧EH P l
theorem EH.all {P}:∀{l},EH P l→∀r∈l,zC P r
 |a::l,h,r,hr=>by
  rcases List.mem_cons.1 hr with rfl|hr
  ·exact h.1
  ·exact EH.all h.2 r hr
structure jJ (E:Env):Prop where
 ok:gA E
 loc:j9 E.sums
 ord:E.P.follows .mixedOrders=true
theorem Kt {P l eqT}(he:Jw P eqT)(hm:P.follows .mixedOrders=true)(h:EH P l):jJ ⟨P,eqT,fj l⟩:=
 ⟨⟨he,yYn fun r hr=>(h.all r hr).ok⟩,yHo fun r hr=>(h.all r hr).loc,hm⟩
theorem nV {P l}(hm:P.follows .mixedOrders=true)(h:EH P l):jJ ⟨P,fun _=>false,fj l⟩:=Kt WO hm h
theorem loops1 {P A pre na nt c L}(h:zS P pre na nt (zQ c 0) L)(hn:(nR c).length=1:=by kernel_rfl) (hl:wv A (zQ c 0)=some L:=by kernel_rfl):wK P A pre na nt c:=
 mc hn (by grind)
theorem zF {P A pre na nt c}(hn:(nR c).length=0:=by kernel_rfl):wK P A pre na nt c:=vVi hn
def ySf (E:Env)(A:zU)(na nt:Nat)(b:Code) ins outs {X Y:Type}(mJ:wk outs→X)(c:Y→rP ins→Option X)(bf:Nat→Y→Y):Prop:=
 ∀k rec d,c (bf k rec) d=Oh (1000+iA) ins d fun st=>kz E A k 1000 na nt b st (yN5 1000 ins outs mJ (c rec))
abbrev Xt (X:Type):=Nat→X→(R:Type)→(Ex→St→Option R)→Option R
theorem Xu {E A na nt b ins outs X Y mJ c bf}(hE:jJ E)(hs:ySf E A na nt b ins outs mJ c bf)(f:Nat→Nat→Y)(elim:Xt X)
  (hX:∀o R K,elim (1000+iA) (mJ o) R K=DQ (1000+iA) outs o K) (hL:wK E.P A 1000 na nt b) (h0:∀k d,c (f k 0) d=none:=by intros;rfl) (h1:∀k n,f k (n+1)=bf k (f k n):=by intros;rfl):
  zS E.P 1000 na nt b ⟨ins,outs,X,fun k d=>c (f k k) d,elim⟩:=
 vRy hE.ok hE.loc hE.ord hL mJ elim hX (fun k n d=>c (f k n) d) h0 (fun k n d=>by rw[h1];exact hs k (f k n) d)
def Xv (E:Env)(A:zU)(na:Nat)(fn:Func) as (rs:RS){X}(up:RL rs.cells→X)(S:Nat→AD as→Option X):Prop:=
 ∀k d,kA E A k 1000 na fn (pW as d).1 (pW as d).2 (mT rs up)=S k d
def yMo (E:Env)(A:zU)(na:Nat)(fn:Func) as (rs:RS)(os:List (List RC))(ns:Nat){X}(up:RL (rs.cells++os.flatten)→X)(S:Nat→XD as→Option X):Prop:=
 ∀k d,kA E A k 1000 na fn (kM as d).1 (kM as d).2 (Ki as rs os ns up)=S k d
def vDg (E:Env)(A:zU)(na:Nat)(fn:Func) as (rs:RS)(os:List (List RC))(ns:Nat)(dA:RS)(dB:List (List RC))(fF:Nat){X Y}(up:RL (rs.cells++os.flatten)→X)(lv:RL (dA.cells++dB.flatten)→Y)(S:Nat→XD as→Option (X⊕Y)):Prop:=
 ∀k d,kA E A k 1000 na fn (kM as d).1 (kM as d).2 (Pc as rs os ns dA dB fF up lv)=S k d
theorem vY6 {E A na f fn as rs X S pack}{unpack:RL rs.cells→X}(hE:jJ E)(aV:Xv E A na fn as rs unpack S)(hL:wK E.P A 1000 na fn.ntmps (zR fn))
  (hf:E.P.funcs[f]? =some fn:=by kernel_rfl) (hb:fn.body.isNone=false:=by kernel_rfl) (hn:(fn.name== "runtime.NumGoroutine")=false:=by kernel_rfl) (fE:∀d,pack (unpack d)=d:=by intro d;rfl):
  zC E.P (f,fun k nm args h=>oX as rs (S k) pack nm args h):=
 ⟨fun k _ _ _ _ _ hy=>vPt hE.ok hE.loc hE.ord hf (body_loops hL) (J8 hf hb hn) fE (aV k) hy,yMl⟩
theorem vXg {E A na f fn as rs os ns X}{S:Nat→XD as→Option X}{pack unpack}(hE:jJ E)(aV:yMo E A na fn as rs os ns unpack S)
  (hL:wK E.P A 1000 na fn.ntmps (zR fn)) (hf:E.P.funcs[f]? =some fn:=by kernel_rfl) (hb:fn.body.isNone=false:=by kernel_rfl) (hn:(fn.name== "runtime.NumGoroutine")=false:=by kernel_rfl) (kN:uo as na=true:=by kernel_rfl) (mV:(!as.any AX.isChn||A.loops.isEmpty)=true:=by kernel_rfl) (fE:∀d,pack (unpack d)=d:=by intro d;rfl):
  zC E.P (f,fun k nm args h=>sC as rs os ns (S k) pack nm args h):=
 ⟨fun k _ _ _ _ _ hy=>Xk hE.ok hE.loc hE.ord hf (body_loops hL) (J8 hf hb hn) fE kN mV (aV k) hy,yOi⟩
theorem Xw {E A na f fn as rs dA os dB ns fF X Y}{S:Nat→XD as→Option (X⊕Y)}{pk up iU lv}(hE:jJ E)
  (aV:vDg E A na fn as rs os ns dA dB fF up lv S)
  (hL:wK E.P A 1000 na fn.ntmps (zR fn)) (hf:E.P.funcs[f]? =some fn:=by kernel_rfl) (hb:fn.body.isNone=false:=by kernel_rfl) (hn:(fn.name== "runtime.NumGoroutine")=false:=by kernel_rfl) (kN:uo as na=true:=by kernel_rfl) (mV:(!as.any AX.isChn||A.loops.isEmpty)=true:=by kernel_rfl) (fE:∀d,pk (up d)=d:=by intro d;rfl) (nU:∀d,iU (lv d)=d:=by intro d;rfl):
  zC E.P (f,fun k nm args h=>uq as rs os ns dA dB fF (S k) pk iU nm args h):=
 ⟨fun k _ _ _ _ _ hy=>Xl hE.ok hE.loc hE.ord hf (body_loops hL) (J8 hf hb hn) fE nU kN mV (aV k) hy,Xs⟩
theorem vWz {E A na f fn sh t rs X}{S:Nat→List t.den→Option X}{pack unpack}(hE:jJ E)(cO:∀k,kA E A k 1000 na fn [.c .nsl] (mb []) (mT rs unpack)=S k [])
  (aV:∀k xs,kA E A k 1000 na fn [.c (.nfl sh t xs)] (mb []) (mT rs unpack)=S k xs) (hL:wK E.P A 1000 na fn.ntmps (zR fn)) (hf:E.P.funcs[f]? =some fn:=by kernel_rfl) (hb:fn.body.isNone=false:=by kernel_rfl) (hn:(fn.name== "runtime.NumGoroutine")=false:=by kernel_rfl) (fE:∀d,pack (unpack d)=d:=by intro d;rfl):
  zC E.P (f,fun k nm args h=>oX [.c (.dat sh t)] rs (fun d=>S k d.1) pack nm args h):=
 ⟨fun k _ _ _ _ _ hy=>WD hE.ok hE.loc hE.ord hf (body_loops hL) (J8 hf hb hn) fE (fun x hx=>(cO k).trans hx) (by grind) hy,yMl⟩
def BF (k:Nat)(a b c:Int):Option (Int×Int):=
 bif decide (c=0) then some (Int.ofNat ((a.toNat+b.toNat+0)%18446744073709551616),Int.ofNat ((a.toNat+b.toNat+0)/18446744073709551616)) else none
def Pm:nQ:=fun k nm args h=>match args with
 |[.c (.int .u64 a),.c (.int .u64 b),.c (.int .u64 c)]=>.call (Int×Int) (BF k a b c) (fun r=>(.tup [(false,[.int .u64 r.1]),(false,[.int .u64 r.2])],[]))
 |_=>.stuck
theorem Xx {P} a b w:
  (add64Entry #[.int .u64 a,.int .u64 b,.int .u64 0]).run P w=.ok (.tuple #[.int .u64 (Int.ofNat ((a.toNat+b.toNat+0)%18446744073709551616)),.int .u64 (Int.ofNat ((a.toNat+b.toNat+0)/18446744073709551616))]) w:=rfl
theorem Xy {P f fn}(hf:P.funcs[f]? =some fn:=by kernel_rfl) (qf:(fn.name== "runtime.NumGoroutine")=false:=by kernel_rfl) (hb:fn.body.isNone=true:=by kernel_rfl)
  (hn:Extern.findNext fn=none:=by kernel_rfl) (he:Extern.find fn=some add64Entry:=by kernel_rfl):
  zC P (f,Pm):=by
 refine⟨fun k nm args h v u hy=>?_,fun _ _ _ _ _ _ _=>rfl⟩;intro M w vs hh hH ok hv;refine .inr ?_;replace hy:yM (Pm k nm args h) v u:=hy;unfold Pm at hy;split at hy
 ·rename_i a b c;obtain⟨x,hx,rfl,rfl⟩:=hy
  match hl:vs.toList,hv with
  |[v1,v2,v3],hv=>
   obtain⟨h1,h2,h3,_⟩:=hv;cases h1;cases h2;cases h3;obtain rfl:vs=#[.int .u64 a,.int .u64 b,.int .u64 c]:=by grind
   obtain⟨hc,hx⟩:=wM hx;cases hx;have hc:c=0:=by simp_all
   subst hc;refine⟨.tuple #[.int .u64 (Int.ofNat ((a.toNat+b.toNat+0)%18446744073709551616)),.int .u64 (Int.ofNat ((a.toNat+b.toNat+0)/18446744073709551616))],w,M,?_,⟨rfl,rfl,rfl,hH,rfl,ok,.refl M⟩,?_⟩
   ·rw[run_callFunc_extern hf qf hb hn he,Xx a b w];rfl
   ·exact⟨#[.int .u64 (Int.ofNat ((a.toNat+b.toNat+0)%18446744073709551616)),.int .u64 (Int.ofNat ((a.toNat+b.toNat+0)/18446744073709551616))],rfl,rfl,rfl,trivial⟩
 ·exact hy.elim
abbrev sP (d i:Nat):Nat×VS:=(d,.c (.lit (.ptr (1001000+i) 0)))
abbrev sO (d i:Nat):Nat×VS:=(d,.c (.lit (.osl (1001000+i) none)))
abbrev sI (d:Nat):Nat×VS:=(d,.c (.int .i64))
abbrev oB (l:List CS):OS:=.box true l
abbrev oA (t:Ty):OS:=.arr true t
abbrev sp (l:List (Nat×VS))(o:List OS):zE:=⟨l,o,[]⟩
def zI (f:Nat)(as:List AS)(rs:RS){X:Type}(s:Nat→AD as→Option X)(pk:X→RL rs.cells)(_:RL rs.cells→X):Nat×nQ:=(f,fun k nm args h=>oX as rs (s k) pk nm args h)
def yB (f:Nat)(as:List AX)(rs:RS)(os:List (List RC))(ns:Nat){X:Type}(s:Nat→XD as→Option X)(pk:X→RL (rs.cells++os.flatten))(_:RL (rs.cells++os.flatten)→X):Nat×nQ:=(f,fun k nm args h=>sC as rs os ns (s k) pk nm args h)
def BG (f:Nat)(as:List AX)(rs:RS)(os:List (List RC))(ns:Nat)(dA:RS)(dB:List (List RC))(fF:Nat){X Y:Type}(s:Nat→XD as→Option (X⊕Y))(pk:X→RL (rs.cells++os.flatten))(iU:Y→RL (dA.cells++dB.flatten))(_:RL (rs.cells++os.flatten)→X)(_:RL (dA.cells++dB.flatten)→Y):Nat×nQ:=(f,fun k nm args h=>uq as rs os ns dA dB fF (s k) pk iU nm args h)
theorem fA {E:Env}(fn:Func)(A:zU){f:Nat}{as:List AS}{rs:RS}{X:Type}{s:Nat→AD as→Option X}{pk:X→RL rs.cells}{up:RL rs.cells→X}(hE:jJ E)(hL:wK E.P A 1000 0 fn.ntmps (zR fn))
  (aV:Xv E A 0 fn as rs up s:=by intro k d;kernel_rfl)
  (hf:E.P.funcs[f]? =some fn:=by kernel_rfl) (hb:fn.body.isNone=false:=by kernel_rfl) (hn:(fn.name== "runtime.NumGoroutine")=false:=by kernel_rfl) (fE:∀d,pk (up d)=d:=by intro d;rfl):
  zC E.P (zI f as rs s pk up):=vY6 hE aV hL hf hb hn fE
theorem fX {E:Env}(fn:Func)(A:zU)(na:Nat){f:Nat}{as:List AX}{rs:RS}{os:List (List RC)}{ns:Nat}{X:Type}{s:Nat→XD as→Option X}{pk:X→RL (rs.cells++os.flatten)}{up:RL (rs.cells++os.flatten)→X}(hE:jJ E)(hL:wK E.P A 1000 na fn.ntmps (zR fn))
  (aV:yMo E A na fn as rs os ns up s:=by intro k d;kernel_rfl)
  (hf:E.P.funcs[f]? =some fn:=by kernel_rfl) (hb:fn.body.isNone=false:=by kernel_rfl) (hn:(fn.name== "runtime.NumGoroutine")=false:=by kernel_rfl) (kN:uo as na=true:=by kernel_rfl) (mV:(!as.any AX.isChn||A.loops.isEmpty)=true:=by kernel_rfl) (fE:∀d,pk (up d)=d:=by intro d;rfl):
  zC E.P (yB f as rs os ns s pk up):=vXg hE aV hL hf hb hn kN mV fE
theorem fN {E:Env}(fn:Func)(A:zU)(na:Nat){f:Nat}{as:List AX}{rs dA:RS}{os dB:List (List RC)}{ns fF:Nat}{X Y:Type}{s:Nat→XD as→Option (X⊕Y)}{pk:X→RL (rs.cells++os.flatten)}{up:RL (rs.cells++os.flatten)→X}{iU:Y→RL (dA.cells++dB.flatten)}{lv:RL (dA.cells++dB.flatten)→Y}(hE:jJ E)(hL:wK E.P A 1000 na fn.ntmps (zR fn))
  (aV:vDg E A na fn as rs os ns dA dB fF up lv s:=by intro k d;kernel_rfl)
  (hf:E.P.funcs[f]? =some fn:=by kernel_rfl) (hb:fn.body.isNone=false:=by kernel_rfl) (hn:(fn.name== "runtime.NumGoroutine")=false:=by kernel_rfl) (kN:uo as na=true:=by kernel_rfl) (mV:(!as.any AX.isChn||A.loops.isEmpty)=true:=by kernel_rfl) (fE:∀d,pk (up d)=d:=by intro d;rfl) (nU:∀d,iU (lv d)=d:=by intro d;rfl):
  zC E.P (BG f as rs os ns dA dB fF s pk iU up lv):=Xw hE aV hL hf hb hn kN mV fE nU
def xC (f:Nat)(sh:Bool)(t:Ty)(r:RC)(s:Nat→List t.den→Option r.den):Nat×nQ:=
 (f,fun k nm args h=>oX [.c (.dat sh t)] (.c r) (fun d=>s k d.1) (fun x=>(x,())) nm args h)
theorem fC {E:Env}(fn:Func)(A:zU){f:Nat}{sh:Bool}{t:Ty}{r:RC}{s:Nat→List t.den→Option r.den}(hE:jJ E)(hL:wK E.P A 1000 0 fn.ntmps (zR fn))
  (cO:∀k,kA E A k 1000 0 fn [.c .nsl] (mb []) (mT (.c r) (fun d=>d.1))=s k []:=by intro k;kernel_rfl)
  (aV:∀k xs,kA E A k 1000 0 fn [.c (.nfl sh t xs)] (mb []) (mT (.c r) (fun d=>d.1))=s k xs:=by intro k xs;kernel_rfl)
  (hf:E.P.funcs[f]? =some fn:=by kernel_rfl) (hb:fn.body.isNone=false:=by kernel_rfl) (hn:(fn.name== "runtime.NumGoroutine")=false:=by kernel_rfl):zC E.P (xC f sh t r s):=
 vWz (rs:=.c r) (pack:=fun x=>(x,())) (unpack:=fun d=>d.1) hE cO aV hL hf hb hn
def qW {T:Type}(z:T)(b:T→T):Nat→T
 |0=>z
 |n+1=>b (qW z b n)
theorem lp {E:Env}{A:zU}{na nt:Nat}{b:Code}(L:zT){Y:Type}(mJ:wk L.outs→L.X)(c:Y→rP L.ins→Option L.X)(f:Nat→Nat→Y)(bf:Nat→Y→Y)(hE:jJ E)(hL:wK E.P A 1000 na nt b)
  (hs:ySf E A na nt b L.ins L.outs mJ c bf:=by intro k rec d;kernel_rfl)
  (hX:∀o R K,L.elim (1000+iA) (mJ o) R K=DQ (1000+iA) L.outs o K:=by intro o R K;first|rfl|(rcases o with o|o<;>rfl)|(rcases o with o|o|o<;>rfl)|(rcases o with o|o|o|o<;>rfl)|(rcases o with o|o|o|o|o<;>rfl))
  (h0:∀k d,c (f k 0) d=none:=by intros;rfl) (h1:∀k n,f k (n+1)=bf k (f k n):=by intros;rfl) (hf:(⟨L.ins,L.outs,L.X,fun k d=>c (f k k) d,L.elim⟩:zT)=L:=by rfl):zS E.P 1000 na nt b L:=by
 rw[←hf];exact Xu hE hs f _ hX hL h0 h1
def ins {α:Type}(b:Nat)(xs:List α)(i:Int)(ys:List α):Option (List α):=
 bif decide (0≤i)&&decide (i≤(xs.length:Int))&&Nat.beq ys.length 1&&zM (xs.length+1) b then some (xs.take i.toNat++(ys++xs.drop i.toNat)) else none
end Go.Ab
