/- part 3 -/
import Derived.Test.YthjmejbmbagljaaGreatGiAbC
import Derived.Laws.Externs
set_option linter.unusedVariables false
set_option linter.unusedSimpArgs false
set_option linter.unusedSectionVars false
namespace Go.Ab
theorem vJd:∀a b,vT (a++b)=vT a++vT b
 |[],_=>rfl
 |(true,_)::a,b
 |(false,_)::a,b=>by simp[vT,vJd a b]
theorem KC {h}:∀{ls is cs bs},kf h ls is=some (cs,bs)→∀id∈vT bs,∃o,h id=some o∧o.owned=true
 |[],[],_,_,e=>by cases e;nofun
 |(io,l)::ls,i::is,cs,bs,e=>by
  unfold kf at e;split at e
  ·rename_i cells rest BD h1 h2;obtain⟨_,e⟩:=wP e;cases e;intro id an;cases io with
   |false=>exact KC h2 id an
   |true=>
    rcases List.mem_cons.1 an with rfl|an
    ·unfold EI at h1;split at h1
     ·rename_i c hc;exact⟨_,hc,rfl⟩
     all_goals simp_all
    ·exact KC h2 id an
  ·cases e
theorem vZh {h}{s:AX}{a cs bs}(e:s.get h a=some (cs,bs)):∀id∈vT bs,∃o,h id=some o∧o.owned=true:=by
 unfold AX.get at e;split at e
 ·cases e;nofun
 ·obtain⟨_,e⟩:=wP e;cases e;nofun
 ·exact KC e
 ·obtain⟨_,e⟩:=wP e;exact KC e
 ·split at e
  ·exact KC e
  ·cases e
 ·cases e
theorem vIz {h}:∀{l as cs bs},kP h l as=some (cs,bs)→l.length=as.length∧∀id∈vT bs,∃o,h id=some o∧o.owned=true
 |[],[],_,_,e=>by cases e;exact⟨rfl,nofun⟩
 |s::l,a::as,cs,bs,e=>by
  unfold kP at e;split at e
  ·rename_i c1 b1 c2 b2 h1 h2;cases e;obtain⟨k1,k2⟩:=vIz h2;refine⟨by simp[k1],fun id an=>?_⟩;rw[vJd] at an;rcases List.mem_append.1 an with an|an
   ·exact vZh h1 id an
   simp_all
  ·cases e
theorem vKj {h}:∀{l cs d},qc h l cs=some d→∀id∈jN l cs,∃o,h id=some o∧o.owned=true
 |[],[],_,_=>nofun
 |x::l,c::cs,d,e=>by
  unfold qc at e;split at e
  ·rename_i y ys h1 h2;have ih:=vKj h2;unfold Kt at h1;split at h1
   ·exact ih
   ·intro jd an;rcases List.mem_cons.1 an with rfl|an
    ·split at h1
     ·rename_i s xs hs;exact⟨_,hs,rfl⟩
     ·cases h1
    ·simp_all
   ·intro jd an;rcases List.mem_cons.1 an with rfl|an
    ·split at h1
     ·rename_i s xs hs;exact⟨_,hs,rfl⟩
     ·cases h1
    ·exact ih jd an
   ·intro jd an;rcases List.mem_cons.1 an with rfl|an
    ·split at h1
     ·rename_i xs hs;exact⟨_,hs,rfl⟩
     ·cases h1
    simp_all
   ·exact ih
   ·cases h1
  ·cases e
theorem vB1 {a b}(h:Xt a b=true):∀id∈b,id∉a:=fun id hb ha=>by
 have h:=List.all_eq_true.1 h id ha;have:b.any (Nat.beq id)=true:=List.any_eq_true.2 ⟨id,hb,by simp⟩;simp_all
theorem yK4:∀os cs,(xB os cs).length=os.length
 |[],_=>rfl
 |_::os,cs=>by simp[xB,yK4 os]
theorem vKd {M L}{P:zL→Nat→Prop}{R}:∀{ids js css Bs},zP (mr M L) ids js→pg R js css Bs→pg (fun id cs B=>∃jd,mr M L id jd∧R jd cs B) ids css Bs
 |[],[],[],[],_,_=>trivial
 |_::_,_::_,_::_,_::_,h,k=>⟨⟨_,h.1,k.1⟩,vKd (P:=P) h.2 k.2⟩
theorem zL.gone_ok {M}(ok:Ok M){nm}(aU:M.h nm=none) C:
  Ok (M.add nm .gone C)∧yT M (M.add nm .gone C)∧(∀b,qN (M.add nm .gone C) b→qN M b):=by
 have x:yT M (M.add nm .gone C):=⟨fun id D h=>by
  have bx:id≠nm:=fun e=>by rw[e,ok.non nm aU] at h;cases h
  exact⟨D,by show κset M.κ nm _ id=_;rw[κset_ne _ _ bx];exact h,D.le_refl⟩,fun _ h=>h,fun _ h=>h,fun _ _=>rfl,fun _ _=>rfl,fun _ _=>rfl⟩
 have at':∀o,(M.add nm .gone C).h nm=some o→o=.gone:=fun o h=>by
  have e1:(M.add nm .gone C).h nm=some .gone:=yV _ _ _;simp_all
 refine⟨Ok.build ok x (fun id=>id=nm) (fun id h=>yY _ _ h) (fun id h=>κset_ne _ _ h) (fun _ _ _ _ _ _ _ _ _=>rfl) (fun id o' D h1 h2 h3 h4 b bg=>(ok.own b ⟨id,o',D,h2,h3,h4,bg⟩).1) (Nat.le_refl _)
  (fun id o' e h=>?_) (fun id e h=>?_) (fun id o' D b e h1 h2 h3 h4=>?_) ok.GF ok.Flt,x,fun b bg=>?_⟩
 ·subst e;rw[at' o' h];exact⟨_,κset_same _ _ _,trivial⟩
 ·have e1:(M.add id .gone C).h id=some .gone:=yV _ _ _;simp_all
 ·subst e;rw[at' o' h1] at h2;cases h2
 ·obtain⟨id,o',D,h1,h2,h3,h4⟩:=bg;by_cases e:id=nm
  ·subst e;rw[at' o' h1] at h2;cases h2
  ·exact⟨id,o',D,by rw[←h1];exact(yY _ _ e).symm,h2,by rw[←h3];exact(κset_ne _ _ e).symm,h4⟩
theorem vId:∀{n nm Bs M},Ok M→(∀i,i<n→M.h (nm+i)=none)→Bs.length=n→
  ∃M':zL,M'.H=M.H∧M'.G=M.G∧M'.F=M.F∧M'.h=qJ M.h (qd (mn nm n))∧Ok M'∧yT M M'∧(∀b,qN M' b→qN M b)∧zP (fun id B=>∃C,M'.κ id=some C∧C.blk=some B) (mn nm n) Bs
 |0,nm,[],M,ok,_,_=>⟨M,rfl,rfl,rfl,rfl,ok,.refl M,by simp,trivial⟩
 |n+1,nm,B::Bs,M,ok,hf,hl=>by
  obtain⟨k1,k2,k3⟩:=zL.gone_ok ok (hf 0 (by omega)) ⟨some B,0,0,0,[]⟩;obtain ⟨M', a1, a2, a3, a4, a5, a6, a7, a8⟩ := vId (n := n) (nm := nm + 1) (Bs := Bs) k1 (fun i hi=>by
   have:=hf (i+1) (by omega);rw[show nm+1+i=nm+(i+1) by omega,←this];exact yY _ _ (by omega)) (by simp_all)
  refine⟨M',a1,a2,a3,a4,a5,yT.trans (M:=M) (M':=M.add nm .gone ⟨some B,0,0,0,[]⟩) (Nat.le_refl _) k2 a6,by grind,?_,a8⟩;obtain⟨C,h1,h2⟩:=a6.κ nm _ (κset_same _ _ _);exact⟨C,h1,h2.blk⟩
theorem XJ {L M ids js}(hs:zP (mr M L) ids js):∀{l cs ds vs},sF l js cs=true→zP (zZ L) cs vs→zP (zZ M) ds vs→zP (zZ M) (BC l ids ds) vs
 |[],cs,ds,vs,_,_,hd=>by exact hd
 |none::l,[],[],[],_,_,_=>trivial
 |none::l,c::cs,d::ds,v::vs,h,hc,hd=>⟨hd.1,XJ hs (l:=l) h hc.2 hd.2⟩
 |some j::l,c::cs,d::ds,v::vs,h,hc,hd=>by
  obtain⟨id,rfl,an,h'⟩:=vJz h;refine⟨?_,XJ hs h' hc.2 hd.2⟩;have hj:=(List.getElem?_eq_some_iff.1 an).1;have hi:j<ids.length:=by rw[hs.length];exact hj
  have:=hs.get j hi hj;rw[(List.getElem?_eq_some_iff.1 an).2] at this;obtain⟨C,D,B,q1,q2,q3,q4⟩:=this;obtain⟨D',B',p1,p2,p3⟩:=hc.1;rw[q3] at p1;cases p1;rw[q4] at p2;cases p2;rw[List.getElem?_eq_getElem hi];exact⟨C,B,q1,q2,p3⟩
 |_,[],_::_,[],_,_,hd=>hd.elim
 |_,_::_,[],[],_,hc,_=>hc.elim
theorem vVj {h ns cs nw}(e:Xr h ns cs=some nw):nw.length=ns:=by
 unfold Xr at e;cases h0:Nat.beq ns 0 with
 |true=>simp_all
 |false=>
  rw[h0] at e;split at e
  ·exact(XA e).2
  ·cases e
def PE (w:World)(na:Nat)(chn:Bool)(M:zL)(vs:Array Value)(rv:Value)(w':World)(v:zY)(st:St):Prop:=
 ∃M':zL,M'.h=st.h∧M'.H=w'.heap∧Ok M'∧ke M M'∧(chn=true→Ph M M')∧zX M' v rv∧w'.os=w.os∧w'.tape=w.tape∧w'.output=w.output∧(∀t,t<na→zX M' (st.t t) (vs.getD t undef))
theorem yS9 {n}:∀{l nm d hh},(∀j,j<l.length→n≠nm+j)→qJ hh (oZ nm l d).2 n=hh n
 |[],_,_,_,_=>rfl
 |r::l,nm,d,hh,h=>by
  show qJ hh ((sw nm r d.1).2++(oZ (nm+1) l d.2).2) n=_;rw[lz,yS9 fun j hj=>by have:=h (j+1) (by simp_all);omega,yF4 (by have:=h 0 (by simp);omega)]
theorem vRa {M}(ok:Ok M){io id cells}(h:EI M.h io id=some cells):∃C B,M.κ id=some C∧C.blk=some B:=by
 have h':Ez M.h id=some cells:=by
  unfold EI at h;unfold Ez;grind
 obtain⟨C,h1,B,_,_,h2,_⟩:=yQn ok h';simp_all
theorem PF {M}(ok:Ok M):∀{ls is cs bs},kf M.h ls is=some (cs,bs)→∀q∈bs,∃C B,M.κ q.2=some C∧C.blk=some B
 |[],[],_,_,e=>by cases e;simp
 |(io,l)::ls,i::is,cs,bs,e=>by
  unfold kf at e;split at e
  ·rename_i cells rest BD h1 h2;obtain⟨_,e⟩:=wP e;cases e;intro q hq;rcases List.mem_cons.1 hq with rfl|hq
   ·exact vRa ok h1
   ·exact PF ok h2 q hq
  ·cases e
theorem vEk {M}(ok:Ok M):∀{l as cs bs},kP M.h l as=some (cs,bs)→∀q∈bs,∃C B,M.κ q.2=some C∧C.blk=some B
 |[],[],_,_,e=>by cases e;simp
 |s::l,a::as,cs,bs,e=>by
  unfold kP at e;split at e
  ·rename_i c1 b1 c2 b2 h1 h2;cases e;intro q hq;rcases List.mem_append.1 hq with hq|hq
   ·unfold AX.get at h1;split at h1
    ·simp_all
    ·grind
    ·exact PF ok h1 q hq
    ·obtain⟨_,h1⟩:=wP h1;exact PF ok h1 q hq
    ·split at h1
     ·exact PF ok h1 q hq
     ·cases h1
    ·cases h1
   ·exact vEk ok h2 q hq
  ·cases e
theorem yWe {L}(ok:Ok L):∀{os ids bs},EJ L.h os ids=some bs→∀j∈ids,∃cells C B,L.h j=some (.box true cells)∧L.κ j=some C∧C.blk=some B
 |[],[],_,_=>by simp
 |o::os,n::ns,bs,h=>by
  unfold EJ at h;split at h
  ·rename_i cells rest h1 h2;intro j hj;rcases List.mem_cons.1 hj with rfl|hj
   ·obtain⟨C,hC,B,vals,e,q1,_⟩:=ok.obj _ _ h1;simp_all
   ·exact yWe ok h2 j hj
  ·cases h
theorem vBj {L}(ok:Ok L):∀{js:List Nat},js.Nodup→(∀j∈js,∃cells C B,L.h j=some (.box true cells)∧L.κ j=some C∧C.blk=some B)→(js.map fun id=>((L.κ id).bind qE.blk).getD 0).Nodup
 |[],_,_=>by simp
 |a::js,hn,bn=>by
  obtain⟨n1,n2⟩:=List.nodup_cons.1 hn;refine List.nodup_cons.2 ⟨fun ph=>?_,vBj ok n2 (by grind)⟩;obtain⟨j,hj,BI⟩:=List.mem_map.1 ph;obtain⟨c1',C,B,q1,q2,q3⟩:=bn a (by simp);obtain⟨c2',D,B',q4,q5,q6⟩:=bn j (by grind);have BI:((L.κ j).bind qE.blk).getD 0=((L.κ a).bind qE.blk).getD 0:=BI;rw[q2,q5] at BI;have BI:(D.blk.getD 0)=(C.blk.getD 0):=BI;rw[q3,q6] at BI;subst BI;exact ok.disj a j _ _ C D B' (by grind) q1 q4 rfl rfl q2 q5 (by simp[qE.fp,q3]) (by simp[qE.fp,q6])
theorem vD1 {na as}(kR:uv as na=true){nm n args h u0 io rows d}(he:BF as nm n args h=some (u0,io,rows,d)) M w vs (hh:M.h=h)(hH:M.H=w.heap)(ok:Ok M)(hv:zP (zX M) args vs.toList):
  ∃Ml:zL,Ml.h=(kQ as d).2∧Ml.H=w.heap∧Ok Ml∧zP (zX Ml) (kQ as d).1 vs.toList∧
   ∀rv w' v0 st,PE w na (as.any AX.isChn) Ml vs rv w' v0 st→∀rs os ns dx,xA st as rs os ns v0=some dx→(rs.cells++os.flatten).length+ns≤n→
    ∃Mf,ud M w (Kz u0 io rows rs os ns nm dx).2 Mf w'∧zX Mf (Kz u0 io rows rs os ns nm dx).1 rv:=by
 unfold BF at he;split at he
 ·cases he
 rename_i eO u By;split at he
 ·cases he
 rename_i cs bs dm;split at he
 ·cases he
 rename_i d' hd;dsimp only at he;obtain⟨hc,he⟩:=nR he;cases he;simp only[Bool.and_eq_true] at hc;obtain⟨⟨⟨⟨⟨⟨nX,dq⟩,dM⟩,gV⟩,nf⟩,EN⟩,EO⟩:=hc;subst hh;obtain⟨M1,a1,a2,a3,a4,a5,a6⟩:=yKf ok (jG.refl _) hv By;rw[←a2] at hd dm;obtain⟨ahq,mg⟩:=vIz dm;have aT:=vKj hd;have ee:nW M1 (vT bs++jN (as.flatMap AX.cells) cs):=fun id an=>(List.mem_append.1 an).elim (mg id) (aT id)
 have XK:=Em gV;obtain⟨Ml,lo,b2,b3,b4,b5,b6⟩:=vYb a3 a5 dm hd XK (vB1 nf) (vB1 EN) (Nat.le_of_ble_eq_true dM) EO ee;generalize iz:vT bs++jN (as.flatMap AX.cells) cs=aq at*
 refine⟨Ml,b2,by rw[lo.H,a1];exact hH,b3,b5,fun rv w' v0 st ⟨L0,c1,c2,c3,c4,ck,c5,c6,c7,c8,c9⟩ rs os ns dx hK hn=>?_⟩;unfold xA at hK;split at hK
 ·cases hK
 rename_i XM kI;split at hK
 ·cases hK
 rename_i ccs nT;split at hK
 ·cases hK
 rename_i nw hnw;split at hK
 ·cases hK
 rename_i bcs uA;obtain⟨KD,PG⟩:=nR hK;clear hK;split at PG
 case h_2=>cases PG
 rename_i aS u1 BA;obtain⟨dJ,hK⟩:=nR PG;clear PG;rw[Bool.and_eq_true] at dJ;obtain⟨dJ,KE⟩:=dJ;have XN:=vVj hnw;obtain⟨hlen,us,d1,d2⟩:=yVr nT c5;rw[←c1] at BA hK uA;obtain⟨js,xf⟩:∃js,js=XM++nw:=⟨_,rfl⟩;rw[←xf] at uA KD KE;obtain⟨k1,k2,PH,k3,k4⟩:=yY4 c3 uA;obtain⟨L,e1,e2,e3,e4,e5,e6⟩:=xu c3 (jG.refl _) (d1.append k3) BA;rw[←e2] at hK;have g:ke Ml L:=c4.trans e4.grow;obtain⟨f1,f2,f3⟩:=zL.overX_ok a3 e3 lo ee b4 g;have cU : zP (mr M1 L0) (vT bs) XM := vCm dm kI a5 (fun i hi s hs uy=>by
  have bI:i<vs.size:=by simpa using hi
  have bd:i<na:=by
   have:=List.all_eq_true.1 kR (s,i) (List.mk_mem_zipIdx_iff_getElem?.2 hs);simp only[uy,Bool.not_true,Bool.false_or] at this;exact UO this
  have:=c9 i bd;rw[Nat.zero_add];have e:vs.getD i undef=vs.toList[i]:=by simp[bI]
  rw[←e];exact this) fun ng i q hq=>by
   obtain⟨C,B,p1,p2⟩:=vEk a3 dm q (List.mem_of_getElem? hq);have hi:i<bs.length:=(List.getElem?_eq_some_iff.1 hq).1;have hκ:Ml.κ i=some C:=by
    rw[b6];unfold κX;have:Nat.ble wQ i=false:=by
     cases h:Nat.ble wQ i with
     |false=>rfl
     |true=>have h1:=Nat.le_of_ble_eq_true h;have h2:=Nat.le_of_ble_eq_true dM;omega
    rw[this,hq];exact p1
   obtain⟨C',p3,p4⟩:=ck ng i C hκ;rw[Nat.zero_add];exact⟨C,C',B,p1,p2,p3,p4.trans p2⟩
 have qe:∀i,i<n→(M1.overX L aq).h (nm+i)=none:=fun i hi=>by
  have h1:=WY nX i hi;have h2:M1.h (nm+i)=none:=by
   rw[a2];rcases a6 (nm+i) with h|⟨own,t,xs,h,_⟩|⟨ver,xs,h,_⟩
   ·rw[a2] at h;rw[h];exact h1
   ·rw[h1] at h;cases h
   ·rw[h1] at h;cases h
  show qJ M1.h (qd aq) (nm+i)=none;rw[xE,if_neg,h2];intro ph;obtain⟨o,ho,_⟩:=ee _ ph;rw[h2] at ho;cases ho
 have qa:∀i,i<(rs.cells++os.flatten).length→(M1.overX L aq).h (nm+i)=none:=fun i hi=>qe i (by omega)
 have uB:∀b,qN L b→b<M1.H.size→lE M1 aq b:=fun b hb bd=>b4 b (g.own b hb (by rw[lo.H];exact bd))
 have xF:∀b,qN L b→¬(M1.overX L aq).F b:=fun b hb h=>by
  rcases h with h|h
  ·exact(ux a3 ee h).2 (uB b hb (a3.Flt b h))
  ·exact(e3.own b hb).1 (e3.GF b h)
 have xG:∀b,qN L b→¬qN (M1.overX L aq) b:=fun b hb h=>by
  obtain⟨q1,q2⟩:=f3 b h;exact q2 (uB b hb (a3.own b q1).2)
 obtain ⟨Mc, g1, g2, g3, g4, g5, g6, g7, g8⟩ := WZ e3 f1 ⟨rfl, rfl⟩ qa hK (Em dJ) (xw hK) (fun id an C hC b hb=>by
  obtain⟨o,ho,iT⟩:=xw hK id an;have aN:qN L b:=⟨id,o,C,ho,iT,hC,hb⟩;exact⟨xG b aN,xF b aN,(e3.own b aN).2⟩)
 obtain ⟨Mg, n1, n2, n3, n4, n5, n6, n7, n8⟩ := vId (n := ns) (nm := nm + (rs.cells ++ os.flatten).length) (Bs := nw.map fun id => ((L0.κ id).bind qE.blk).getD 0) g5 (fun i hi=>by
  rw[g4,yS9 (fun j hj=>by omega),Nat.add_assoc];exact qe _ (by omega)) (by simp[XN])
 have qf:∀j∈js,∃cells C B,L0.h j=some (.box true cells)∧L0.κ j=some C∧C.blk=some B:=yWe c3 uA;have PI:yT M1 Mg:=(f2.ext.trans f2.size g6).trans (by rw[g1];exact f2.size) n6;have Es:zP (mr Mg L0) (vT bs) XM:=cU.mono fun id jd hq=>by
  obtain⟨C,D,B,q1,q2,q3,q4⟩:=hq;obtain⟨C',p3,le⟩:=PI.κ id C q1;exact⟨C',D,B,p3,le.blk.trans q2,q3,q4⟩
 have EP:zP (mr Mg L0) (mn (nm+(rs.cells++os.flatten).length) ns) nw:=by
  have hl8:=n8.length;rw[List.length_map] at hl8;refine zP.of_get hl8 fun i h1 h2=>?_
  obtain⟨C,q1,q2⟩:=n8.get i h1 (by simpa using h2);obtain⟨cells,D,B,p1,p2,p3⟩:=qf nw[i] (by rw[xf];exact List.mem_append_right _ (List.getElem_mem _));refine⟨C,D,B,q1,?_,p2,p3⟩;rw[q2,List.getElem_map,p2];show some (D.blk.getD 0)=_;rw[p3];rfl
 have mv:zP (mr Mg L0) (vT bs++mn (nm+(rs.cells++os.flatten).length) ns) js:=by
  rw[xf];exact Es.append EP
 have uC:zP (mr Mg L) (vT bs++mn (nm+(rs.cells++os.flatten).length) ns) js:=mv.mono fun id jd hq=>by
  obtain⟨C,D,B,q1,q2,q3,q4⟩:=hq;obtain⟨D',p3,le⟩:=e4.ext.κ jd D q3;exact⟨C,D',B,q1,q2,p3,le.blk.trans q4⟩
 have BJ:=XJ uC KE e5 ((g8 _ e5).mono fun _ _ h=>h.ext n6);obtain⟨G,hG⟩:∃G,G=BC ((rs.cells++os.flatten).map RC.lnk) (vT bs++mn (nm+(rs.cells++os.flatten).length) ns) (oZ nm (rs.cells++os.flatten) dx).1:=⟨_,rfl⟩;rw[←hG] at BJ;have Ef:us.length=rs.cells.length:=by rw[←d1.length,hlen]
 have hgr:zP (zZ Mg) (G.take rs.cells.length) us:=by
  have:=zP.take rs.cells.length BJ
  rwa [show(us++PH).take rs.cells.length=us from by rw[←Ef,List.take_left]] at this
 have hgb:zP (zZ Mg) (G.drop rs.cells.length) PH:=by
  have:=zP.drop rs.cells.length BJ
  rwa [show(us++PH).drop rs.cells.length=PH from by rw[←Ef,List.drop_left]] at this
 have hHc:Mg.H=L0.H:=by rw[n1,g1];exact e1
 have KF:=vKd (P:=fun _ _=>True) mv (k4 hHc hgb);have xH:∀jd B,(∃cells,L0.h jd=some (.box true cells))→(∃C,L0.κ jd=some C∧C.blk=some B)→∃cells C,L.h jd=some (.box true cells)∧L.κ jd=some C∧B∈C.fp:=fun jd B ⟨cells,q1⟩ ⟨C,q2,q3⟩=>by
  obtain⟨C',q4,le⟩:=e4.ext.κ jd C q2;refine⟨cells,C',?_,q4,?_⟩
  ·rcases e6 jd with h|⟨own,t,xs,h,_⟩|⟨ver,xs,h,_⟩
   ·rw[h,q1]
   ·rw[q1] at h;cases h
   ·rw[q1] at h;cases h
  ·have:C'.blk=some B:=le.blk.trans q3;simp[qE.fp,this]
 have KG:∀b,b∈(js.map fun id=>((L0.κ id).bind qE.blk).getD 0)→qN L b:=fun b hb=>by
  obtain⟨j,hj,rfl⟩:=List.mem_map.1 hb;obtain⟨cells,C,B,q1,q2,q3⟩:=qf j hj;obtain⟨bF,D,p4,p5,p6⟩:=xH j B ⟨cells,q1⟩ ⟨C,q2,q3⟩;have e:((L0.κ j).bind qE.blk).getD 0=B:=by rw[q2];show C.blk.getD 0=B;rw[q3];rfl
  rw[e];exact⟨j,_,D,p4,rfl,p5,p6⟩
 have BK : pg (yT6 Mg) (vT bs ++ mn (nm + (rs.cells ++ os.flatten).length) ns) (xB os (G.drop rs.cells.length)) (js.map fun id => ((L0.κ id).bind qE.blk).getD 0) := pg.mono (fun id css B _ ⟨jd,q1,q2,⟨D0,q3,q3b,_⟩,q4⟩=>by
  obtain⟨C,D1,B',p1,p2,p3,p3b⟩:=q1;rw[q3] at p3;cases p3;rw[q3b] at p3b;cases p3b;obtain⟨cells,D,p4,p5,p6⟩:=xH jd B q2 ⟨_,q3,q3b⟩;have aN:qN L B:=⟨jd,_,D,p4,rfl,p5,p6⟩;refine⟨⟨C,p1,p2⟩,q4,fun ho=>?_,?_⟩
  ·rcases g7 B (n7 B ho) with h|⟨kd,PJ,D',p7,p8⟩
   ·exact xG B aN h
   ·obtain⟨o,p9,uz⟩:=xw hK kd PJ;refine e3.disj jd kd _ o D D' B (fun e=>?_) p4 p9 rfl uz p5 p7 p6 p8;exact vAp hK kd PJ true cells (by rw[←e];exact p4)
  ·rw[n3,g3];exact xF B aN) KF
 have hBs:(js.map fun id=>((L0.κ id).bind qE.blk).getD 0).Nodup:=vBj c3 (Em KD) qf;obtain⟨Mf,r1,r2,r3,r4,r5,r6,r7⟩:=yMa n5 BK hBs;have xx:yR M1 Mf:=by
  have aN:∀b,qN Mf b→b<M1.H.size→qN M1 b:=fun b hb bd=>by
   rcases r7 b hb with hb|hb
   ·rcases g7 b (n7 b hb) with h|⟨id,an,C,hC,EB⟩
    ·exact(f3 b h).1
    ·obtain⟨o,ho,iT⟩:=xw hK id an;exact(uB b ⟨id,o,C,ho,iT,hC,EB⟩ bd).own ee
   ·exact(uB b (KG b hb) bd).own ee
  have Pt:Mf.H=(M1.overX L aq).H:=r1.trans (n1.trans g1);refine⟨PI.trans ?_ r6,?_,fun b hb hn=>?_,aN,fun b hb bd=>?_,fun b hb bd=>?_⟩
  ·rw[n1,g1];exact f2.size
  ·rw[Pt];exact f2.size
  ·rw[Pt];exact f2.frame b hb hn
  ·rw[r2,n2,g2] at hb;exact f2.Gb b hb bd
  ·rw[r3,n3,g3] at hb;exact f2.Fb b hb bd
 have qg:(vT bs++mn (nm+(rs.cells++os.flatten).length) ns).length=(xB os (G.drop rs.cells.length)).length:=by
  rw[yK4,mv.length,k2]
 refine⟨Mf,⟨c6,c7,c8,?_,?_,r5,a4.trans xx⟩,?_⟩
 ·rw[r1,n1,g1];show L.H=_;rw[e1,c2]
 ·rw[r4,n4,g4];show _=qJ M.h (u0++(qd (jN (as.flatMap AX.cells) cs)++((oZ nm (rs.cells++os.flatten) dx).2++EK (vT bs++mn (nm+(rs.cells++os.flatten).length) ns) (xB os ((BC ((rs.cells++os.flatten).map RC.lnk) (vT bs++mn (nm+(rs.cells++os.flatten).length) ns) (oZ nm (rs.cells++os.flatten) dx).1).drop rs.cells.length)))));rw[←hG,lz,lz,lz,←a2];refine vG8 qg fun m hm=>?_
  rw[List.mem_append,not_or] at hm;rw[xE,if_neg hm.2];refine Bo ?_;show qJ M1.h (qd aq) m=_;rw[xE,xE,←iz];simp[hm.1]
 ·show zX Mf (rs.mk ((BC ((rs.cells++os.flatten).map RC.lnk) (vT bs++mn (nm+(rs.cells++os.flatten).length) ns) (oZ nm (rs.cells++os.flatten) dx).1).take rs.cells.length)) rv;rw[←hG];exact d2 Mf _ (hgr.mono fun _ _ h=>h.ext r6)
theorem yO3 {P na f}(cd:∀vs w,(callFunc f vs).run P w=.ok (.enter f vs) w)
  {as rs os ns X} {S:XD as→Option X} {pack unpack} (fD:∀d,pack (unpack d)=d) (kR:uv as na=true)
  (mw:∀d x,S d=some x→∀M w vs,M.h=(kQ as d).2→M.H=w.heap→Ok M→zP (zX M) (kQ as d).1 vs.toList→Calls P f vs w fun
   |.returned rv,w'=>∃(v:zY) (st:St),Ky as rs os ns unpack v st=some x∧PE w na (as.any AX.isChn) M vs rv w' v st
   |_,_=>False)
  {nm args h v u} (hy:yO (sH as rs os ns S pack nm args h) v u):ue P f args h v u:=by
 intro M w vs hh hH ok hv;refine .inl ⟨cd vs w,?_⟩;unfold sH at hy;split at hy
 ·exact hy.elim
 rename_i u0 io rows d he;obtain⟨x,hx,rfl,rfl⟩:=hy;obtain⟨Ml,b1,b2,b3,b4,b5⟩:=vD1 kR he M w vs hh hH ok hv;refine Calls.mono (mw d x hx Ml w vs b1 b2 b3 b4) fun e w' hl=>?_
 cases e with
 |panicked _=>omega
 |outgrown=>omega
 |returned rv=>
  obtain⟨v0,st,hK,hl⟩:=hl;have hK:xA st as rs os ns v0=some (pack x):=by
   unfold Ky at hK;grind
  grind
theorem XO {P na f}(cd:∀vs w,(callFunc f vs).run P w=.ok (.enter f vs) w)
  {as rs dw os dy ns fE X Y} {S:XD as→Option (X⊕Y)} {pk up iV lD}
  (fD:∀d,pk (up d)=d) (nY:∀d,iV (lD d)=d) (kR:uv as na=true)
  (mw:∀d x,S d=some x→∀M w vs,M.h=(kQ as d).2→M.H=w.heap→Ok M→zP (zX M) (kQ as d).1 vs.toList→Calls P f vs w fun
   |.returned rv,w'=>∃(v:zY) (st:St),Pz as rs os ns dw dy fE up lD v st=some x∧PE w na (as.any AX.isChn) M vs rv w' v st
   |_,_=>False)
  {nm args h v u} (hy:yO (uw as rs os ns dw dy fE S pk iV nm args h) v u):ue P f args h v u:=by
 intro M w vs hh hH ok hv;refine .inl ⟨cd vs w,?_⟩;unfold uw at hy;split at hy
 ·exact hy.elim
 rename_i u0 io rows d he;obtain⟨Ml,b1,b2,b3,b4,b5⟩:=vD1 kR he M w vs hh hH ok hv;rcases hy with⟨x,hx,rfl,rfl⟩|⟨x,hx,rfl,rfl⟩<;>
 ·refine Calls.mono (mw d _ hx Ml w vs b1 b2 b3 b4) fun e w' hl=>?_
  cases e with
  |panicked _=>omega
  |outgrown=>omega
  |returned rv=>
   obtain⟨v0,st,hK,hl⟩:=hl;unfold Pz at hK;grind
theorem yKo {E}(hE:gy E)(hS:kb E.sums)(hm:E.P.follows .mixedOrders=true){A k pre na f fn}(hf:E.P.funcs[f]? =some fn)(hL:∀c,fn.body=some c→wN E.P A pre na fn.ntmps c){chn}(ng:(!chn||A.loops.isEmpty)=true)
  {R K} {x:R} {args h} (aV:kE E A k pre na fn args h K=some x) {M w vs} (h1:M.h=h) (h2:M.H=w.heap) (h3:Ok M) (h4:zP (zX M) args vs.toList):
  Calls E.P f vs w fun
   |.returned rv,w'=>∃(v:zY) (st:St),K v st=some x∧PE w na chn M vs rv w' v st
   |_,_=>False:=by
 refine Calls.mono (WJ hE hS hm hf hL aV h1 h2 h3 h4) fun e w' hl=>?_
 cases e with
 |panicked _=>omega
 |outgrown=>omega
 |returned rv=>
  obtain⟨M',v,st,a1,a2,a3,a4,a5,a6,a7,a8,a9,KH,a11⟩:=hl;refine⟨v,st,a1,M',a2,a3,a4,a5,fun hc=>a6 ?_,a7,a8,a9,KH,a11⟩;simp_all
theorem vN4 {E}(hE:gy E)(hS:kb E.sums)(hm:E.P.follows .mixedOrders=true){A k pre na f fn}(hf:E.P.funcs[f]? =some fn)(hL:∀c,fn.body=some c→wN E.P A pre na fn.ntmps c)(cd:∀vs w,(callFunc f vs).run E.P w=.ok (.enter f vs) w)
  {as rs os ns X} {S:XD as→Option X} {pack unpack} (fD:∀d,pack (unpack d)=d) (kR:uv as na=true) (ng:(!as.any AX.isChn||A.loops.isEmpty)=true)
  (aV:∀d,kE E A k pre na fn (kQ as d).1 (kQ as d).2 (Ky as rs os ns unpack)=S d)
  {nm args h v u} (hy:yO (sH as rs os ns S pack nm args h) v u):ue E.P f args h v u:=
 yO3 cd fD kR (fun d x hx M w vs h1 h2 h3 h4=>yKo hE hS hm hf hL ng ((aV d).trans hx) h1 h2 h3 h4) hy
theorem XP {E}(hE:gy E)(hS:kb E.sums)(hm:E.P.follows .mixedOrders=true){A k pre na f fn}(hf:E.P.funcs[f]? =some fn)(hL:∀c,fn.body=some c→wN E.P A pre na fn.ntmps c)(cd:∀vs w,(callFunc f vs).run E.P w=.ok (.enter f vs) w)
  {as rs dw os dy ns fE X Y} {S:XD as→Option (X⊕Y)} {pk up iV lD}
  (fD:∀d,pk (up d)=d) (nY:∀d,iV (lD d)=d) (kR:uv as na=true) (ng:(!as.any AX.isChn||A.loops.isEmpty)=true)
  (aV:∀d,kE E A k pre na fn (kQ as d).1 (kQ as d).2 (Pz as rs os ns dw dy fE up lD)=S d)
  {nm args h v u} (hy:yO (uw as rs os ns dw dy fE S pk iV nm args h) v u):ue E.P f args h v u:=
 XO cd fD nY kR (fun d x hx M w vs h1 h2 h3 h4=>yKo hE hS hm hf hL ng ((aV d).trans hx) h1 h2 h3 h4) hy
section
variable {h h':Hp}
theorem vU0 {x c}(hh:∀id∈vL c,h id=h' id):Kt h x c=Kt h' x c:=by
 unfold Kt;split
 ·exact yZf hh
 ·rename_i id;rw[hh id (by simp[vL])]
 ·rename_i id;rw[hh id (by simp[vL])]
 ·rename_i id;rw[hh id (by simp[vL])]
 ·rfl
 ·rfl
theorem vHq:∀{l cs},(∀id∈cs.flatMap vL,h id=h' id)→qc h l cs=qc h' l cs
 |[],[],_
 |[],_::_,_
 |_::_,[],_=>rfl
 |p::l,c::cs,hh=>by
  simp  at hh;unfold qc;rw[vU0 fun id hi=>hh id (.inl hi),vHq (by grind)]
theorem vNb {ls}:kf h ls []=kf h' ls []:=by
 cases ls<;>rfl
theorem vVh {s:AX}{a}(hb:wS a=false):s.get h a=s.get h' a:=by
 unfold AX.get;cases s with
 |c p=>grind
 |agg l=>grind
 |ptr io l=>
  cases a with
  |c x=>cases x<;>first|rfl|(exact absurd hb (by simp[wS]))
  |_=>rfl
 |fn f bA=>
  cases a with
  |c x=>cases x with
   |fn g ids=>
    cases ids with
    |nil=>dsimp only;rw[vNb]
    |cons _ _=>exact absurd hb (by nofun)
   |_=>rfl
  |_=>rfl
 |chn ls=>
  cases a with
  |c x=>cases x<;>first|rfl|(exact absurd hb (by nofun))
  |_=>rfl
theorem XQ {s:AX}{a cs bs}(hb:wS a=false)(e:s.get h a=some (cs,bs)):∀id∈cs.flatMap vL,id∈yU a:=by
 unfold AX.get at e;split at e
 ·cases e;intro id an;simp  at an;exact an
 ·obtain⟨_,e⟩:=wP e;cases e;exact fun id an=>an
 ·exact absurd hb (by nofun)
 ·rename_i f bA g ids;obtain⟨_,e⟩:=wP e;cases ids with
  |nil=>cases bA with
   |nil=>cases e;simp
   |cons _ _=>cases e
  |cons _ _=>exact absurd hb (by nofun)
 ·exact absurd hb (by nofun)
 ·cases e
theorem yY9:∀{l as},as.any wS=false→kP h l as=kP h' l as
 |[],[],_
 |[],_::_,_
 |_::_,[],_=>rfl
 |s::l,a::as,hb=>by
  simp only[List.any_cons,Bool.or_eq_false_iff] at hb;unfold kP;rw[vVh (h:=h) (h':=h') hb.1,yY9 hb.2]
theorem yNw:∀{l as cs bs},as.any wS=false→kP h l as=some (cs,bs)→∀id∈cs.flatMap vL,id∈as.flatMap yU
 |[],[],cs,bs,_,e=>by cases e;simp
 |s::l,a::as,cs,bs,hb,e=>by
  simp only[List.any_cons,Bool.or_eq_false_iff] at hb;unfold kP at e;split at e
  ·rename_i c1 b1 c2 b2 e1 e2;cases e;intro id an;rw[List.flatMap_append,List.mem_append] at an;rw[List.flatMap_cons,List.mem_append];rcases an with an|an
   ·exact .inl (XQ hb.1 e1 id an)
   ·exact .inr (yNw hb.2 e2 id an)
  ·cases e
theorem vOt {s a}(hh:∀id∈yU a,h id=h' id):xC h s a=xC h' s a:=by
 unfold xC;split
 ·rename_i p x;have:=ED (h:=h) (h':=h') (l:=[p.isKept]) (cs:=[x]) (by rw[EC];exact hh);simp_all
 ·rename_i l xs;have:=ED (h:=h) (h':=h') (l:=l.map PC.isKept) (cs:=xs) hh;simp_all
 ·rfl
theorem vU6 {s a a' u}(e:xC h s a=some (a',u)):(∀id∈yU a',id∈yU a)∧(wS a=false→wS a'=false):=by
 unfold xC at e;split at e
 ·rename_i p x;split at e
  ·rename_i y u1 e1;cases e;refine⟨fun id an=>by have:=EE e1 id (by rw[EC];omega);rwa [EC] at this,fun hb=>?_⟩;cases hk:p.isKept with
   |false=>rw[hk] at e1;cases e1;exact hb
   |true=>
    rw[hk] at e1;unfold gA at e1;split at e1
    ·rename_i c1 u2 mX sb e2 e3;cases e1;cases hy:wS (.c y) with
     |false=>rfl
     |true=>rw[(Xb e2).2 hy] at hb;cases hb
    ·cases e1
  ·cases e
 ·split at e
  ·rename_i ys u1 e1;cases e;exact⟨EE e1,fun _=>rfl⟩
  ·cases e
 simp_all
theorem vAu:∀{l as},(∀id∈as.flatMap yU,h id=h' id)→sG h l as=sG h' l as
 |[],as,_=>by rfl
 |_::_,[],_=>rfl
 |s::l,a::as,hh=>by
  simp  at hh;unfold sG;rw[vOt fun id hi=>hh id (.inl hi),vAu (by grind)]
theorem vF5:∀{l as fc u},sG h l as=some (fc,u)→(∀id∈fc.flatMap yU,id∈as.flatMap yU)∧(as.any wS=false→fc.any wS=false)
 |[],as,fc,u,e=>by cases as<;>cases e<;>exact by simp
 |s::l,[],fc,u,e=>by cases e;simp
 |s::l,a::as,fc,u,e=>by
  unfold sG at e;split at e
  ·rename_i a1 u1 W4 sb e1 e2;obtain⟨k1,k2⟩:=vU6 e1;obtain⟨k3,k4⟩:=vF5 e2;grind
  ·cases e
theorem yYi {as nm n args}(h1:args.any wS=false→∀id,(id∈args.flatMap yU∨nK nm id=true)→h id=h' id)(h2:args.any wS=true→h=h'):BF as nm n args h=BF as nm n args h':=by
 cases hb:args.any wS with
 |true=>rw[h2 hb]
 |false=>
  have hh:=h1 hb;unfold BF;rw[vAu (h:=h) (h':=h') (by grind)];cases e:sG h' as args with
  |none=>rfl
  |some p=>
   obtain⟨eO,u⟩:=p;obtain⟨k1,k2⟩:=vF5 e;dsimp only;rw[yY9 (h:=qJ h u) (h':=qJ h' u) (k2 hb)];cases e2:kP (qJ h' u) as eO with
   |none=>rfl
   |some q=>
    obtain⟨cs,bs⟩:=q;dsimp only;rw[vHq (h:=qJ h u) (h':=qJ h' u) fun id an=>Bo (hh id (.inl (k1 id (yNw (k2 hb) e2 id an))))];cases qc (qJ h' u) (as.flatMap AX.cells) cs with
    |none=>rfl
    |some d=>
     cases hle:Nat.ble n 100 with
     |false=>simp
     |true=>
      have hle:=Nat.le_of_ble_eq_true hle;rw [Xe (h := h) (h' := h') fun i hi => hh _ (.inr (by
       simp only[nK,Bool.and_eq_true];exact⟨by simp,by simp[Nat.blt_eq];omega⟩))]
end
theorem yTd {as rs os ns X}{S:Nat→XD as→Option X}{pack}:Ko fun k nm args h=>sH as rs os ns (S k) pack nm args h:=by
 intro k nm args h h' h1 h2;show sH as rs os ns (S k) pack nm args h=sH as rs os ns (S k) pack nm args h';unfold sH;rw[yYi h1 h2]
theorem vWl {as rs dw os dy ns fE X Y}{S:Nat→XD as→Option (X⊕Y)}{pk iV}:Ko fun k nm args h=>uw as rs os ns dw dy fE (S k) pk iV nm args h:=by
 intro k nm args h h' h1 h2;show uw as rs os ns dw dy fE (S k) pk iV nm args h=uw as rs os ns dw dy fE (S k) pk iV nm args h';unfold uw;rw[yYi h1 h2]
structure zC (P:Program) (r:Nat×nU):Prop where
 ok:vIo P r
 loc:Ko r.2
def ER (P:Program):List (Nat×nU)→Prop
 |[]=>True
 |r::l=>zC P r∧ER P l
theorem ER.all {P}:∀{l},ER P l→∀r∈l,zC P r
 |a::l,h,r,hr=>by
  rcases List.mem_cons.1 hr with rfl|hr
  ·exact h.1
  ·exact ER.all h.2 r hr
structure jJ (E:Env):Prop where
 ok:gy E
 loc:kb E.sums
 ord:E.P.follows .mixedOrders=true
theorem KI {P l eqT}(he:JN P eqT)(hm:P.follows .mixedOrders=true)(h:ER P l):jJ ⟨P,eqT,fe l⟩:=
 ⟨⟨he,yL1 fun r hr=>(h.all r hr).ok⟩,vE5 fun r hr=>(h.all r hr).loc,hm⟩
theorem nZ {P l}(hm:P.follows .mixedOrders=true)(h:ER P l):jJ ⟨P,fun _=>false,fe l⟩:=KI Xh hm h
theorem loops1 {P A pre na nt c L}(h:zU P pre na nt (zS c 0) L)(hn:(nV c).length=1:=by kernel_rfl) (hl:xa A (zS c 0)=some L:=by kernel_rfl):wN P A pre na nt c:=
 mm hn (by grind)
theorem zF {P A pre na nt c}(hn:(nV c).length=0:=by kernel_rfl):wN P A pre na nt c:=vLl hn
def yGu (E:Env)(A:zW)(na nt:Nat)(b:Code) ins outs {X Y:Type}(mQ:wx outs→X)(c:Y→rU ins→Option X)(bf:Nat→Y→Y):Prop:=
 ∀k rec d,c (bf k rec) d=OH (1000+iw) ins d fun st=>kD E A k 1000 na nt b st (yKl 1000 ins outs mQ (c rec))
abbrev vPc (X:Type):=Nat→X→(R:Type)→(Ex→St→Option R)→Option R
theorem XR {E A na nt b ins outs X Y mQ c bf}(hE:jJ E)(hs:yGu E A na nt b ins outs mQ c bf)(f:Nat→Nat→Y)(elim:vPc X)
  (hX:∀o R K,elim (1000+iw) (mQ o) R K=DY (1000+iw) outs o K) (hL:wN E.P A 1000 na nt b) (h0:∀k d,c (f k 0) d=none:=by intros;rfl) (h1:∀k n,f k (n+1)=bf k (f k n):=by intros;rfl):
  zU E.P 1000 na nt b ⟨ins,outs,X,fun k d=>c (f k k) d,elim⟩:=
 vW6 hE.ok hE.loc hE.ord hL mQ elim hX (fun k n d=>c (f k n) d) h0 (fun k n d=>by rw[h1];exact hs k (f k n) d)
def XS (E:Env)(A:zW)(na:Nat)(fn:Func) as (rs:RS){X}(up:RL rs.cells→X)(S:Nat→AD as→Option X):Prop:=
 ∀k d,kE E A k 1000 na fn (pY as d).1 (pY as d).2 (nc rs up)=S k d
def yUe (E:Env)(A:zW)(na:Nat)(fn:Func) as (rs:RS)(os:List (List RC))(ns:Nat){X}(up:RL (rs.cells++os.flatten)→X)(S:Nat→XD as→Option X):Prop:=
 ∀k d,kE E A k 1000 na fn (kQ as d).1 (kQ as d).2 (Ky as rs os ns up)=S k d
def vF6 (E:Env)(A:zW)(na:Nat)(fn:Func) as (rs:RS)(os:List (List RC))(ns:Nat)(dw:RS)(dy:List (List RC))(fE:Nat){X Y}(up:RL (rs.cells++os.flatten)→X)(lD:RL (dw.cells++dy.flatten)→Y)(S:Nat→XD as→Option (X⊕Y)):Prop:=
 ∀k d,kE E A k 1000 na fn (kQ as d).1 (kQ as d).2 (Pz as rs os ns dw dy fE up lD)=S k d
theorem vR7 {E A na f fn as rs X S pack}{unpack:RL rs.cells→X}(hE:jJ E)(aV:XS E A na fn as rs unpack S)(hL:wN E.P A 1000 na fn.ntmps (zT fn))
  (hf:E.P.funcs[f]? =some fn:=by kernel_rfl) (hb:fn.body.isNone=false:=by kernel_rfl) (hn:(fn.name== "runtime.NumGoroutine")=false:=by kernel_rfl) (fD:∀d,pack (unpack d)=d:=by intro d;rfl):
  zC E.P (f,fun k nm args h=>o6 as rs (S k) pack nm args h):=
 ⟨fun k _ _ _ _ _ hy=>W6 hE.ok hE.loc hE.ord hf (body_loops hL) (Kp hf hb hn) fD (aV k) hy,yZe⟩
theorem vPy {E A na f fn as rs os ns X}{S:Nat→XD as→Option X}{pack unpack}(hE:jJ E)(aV:yUe E A na fn as rs os ns unpack S)
  (hL:wN E.P A 1000 na fn.ntmps (zT fn)) (hf:E.P.funcs[f]? =some fn:=by kernel_rfl) (hb:fn.body.isNone=false:=by kernel_rfl) (hn:(fn.name== "runtime.NumGoroutine")=false:=by kernel_rfl) (kR:uv as na=true:=by kernel_rfl) (ng:(!as.any AX.isChn||A.loops.isEmpty)=true:=by kernel_rfl) (fD:∀d,pack (unpack d)=d:=by intro d;rfl):
  zC E.P (f,fun k nm args h=>sH as rs os ns (S k) pack nm args h):=
 ⟨fun k _ _ _ _ _ hy=>vN4 hE.ok hE.loc hE.ord hf (body_loops hL) (Kp hf hb hn) fD kR ng (aV k) hy,yTd⟩
theorem XT {E A na f fn as rs dw os dy ns fE X Y}{S:Nat→XD as→Option (X⊕Y)}{pk up iV lD}(hE:jJ E)
  (aV:vF6 E A na fn as rs os ns dw dy fE up lD S)
  (hL:wN E.P A 1000 na fn.ntmps (zT fn)) (hf:E.P.funcs[f]? =some fn:=by kernel_rfl) (hb:fn.body.isNone=false:=by kernel_rfl) (hn:(fn.name== "runtime.NumGoroutine")=false:=by kernel_rfl) (kR:uv as na=true:=by kernel_rfl) (ng:(!as.any AX.isChn||A.loops.isEmpty)=true:=by kernel_rfl) (fD:∀d,pk (up d)=d:=by intro d;rfl) (nY:∀d,iV (lD d)=d:=by intro d;rfl):
  zC E.P (f,fun k nm args h=>uw as rs os ns dw dy fE (S k) pk iV nm args h):=
 ⟨fun k _ _ _ _ _ hy=>XP hE.ok hE.loc hE.ord hf (body_loops hL) (Kp hf hb hn) fD nY kR ng (aV k) hy,vWl⟩
theorem vMk {E A na f fn sh t rs X}{S:Nat→List t.den→Option X}{pack unpack}(hE:jJ E)(cO:∀k,kE E A k 1000 na fn [.c .nsl] (mj []) (nc rs unpack)=S k [])
  (aV:∀k xs,kE E A k 1000 na fn [.c (.nfl sh t xs)] (mj []) (nc rs unpack)=S k xs) (hL:wN E.P A 1000 na fn.ntmps (zT fn)) (hf:E.P.funcs[f]? =some fn:=by kernel_rfl) (hb:fn.body.isNone=false:=by kernel_rfl) (hn:(fn.name== "runtime.NumGoroutine")=false:=by kernel_rfl) (fD:∀d,pack (unpack d)=d:=by intro d;rfl):
  zC E.P (f,fun k nm args h=>o6 [.c (.dat sh t)] rs (fun d=>S k d.1) pack nm args h):=
 ⟨fun k _ _ _ _ _ hy=>vL6 hE.ok hE.loc hE.ord hf (body_loops hL) (Kp hf hb hn) fD (fun x hx=>(cO k).trans hx) (by grind) hy,yZe⟩
def BL (k:Nat)(a b c:Int):Option (Int×Int):=
 bif decide (c=0) then some (Int.ofNat ((a.toNat+b.toNat+0)%18446744073709551616),Int.ofNat ((a.toNat+b.toNat+0)/18446744073709551616)) else none
def PK:nU:=fun k nm args h=>match args with
 |[.c (.int .u64 a),.c (.int .u64 b),.c (.int .u64 c)]=>.call (Int×Int) (BL k a b c) (fun r=>(.tup [(false,[.int .u64 r.1]),(false,[.int .u64 r.2])],[]))
 |_=>.stuck
theorem vO4 {P} a b w:
  (add64Entry #[.int .u64 a,.int .u64 b,.int .u64 0]).run P w=.ok (.tuple #[.int .u64 (Int.ofNat ((a.toNat+b.toNat+0)%18446744073709551616)),.int .u64 (Int.ofNat ((a.toNat+b.toNat+0)/18446744073709551616))]) w:=rfl
theorem XU {P f fn}(hf:P.funcs[f]? =some fn:=by kernel_rfl) (qh:(fn.name== "runtime.NumGoroutine")=false:=by kernel_rfl) (hb:fn.body.isNone=true:=by kernel_rfl)
  (hn:Extern.findNext fn=none:=by kernel_rfl) (he:Extern.find fn=some add64Entry:=by kernel_rfl):
  zC P (f,PK):=by
 refine⟨fun k nm args h v u hy=>?_,fun _ _ _ _ _ _ _=>rfl⟩;intro M w vs hh hH ok hv;refine .inr ?_;replace hy:yO (PK k nm args h) v u:=hy;unfold PK at hy;split at hy
 ·rename_i a b c;obtain⟨x,hx,rfl,rfl⟩:=hy
  match hl:vs.toList,hv with
  |[v1,v2,v3],hv=>
   obtain⟨h1,h2,h3,_⟩:=hv;cases h1;cases h2;cases h3;obtain rfl:vs=#[.int .u64 a,.int .u64 b,.int .u64 c]:=by grind
   obtain⟨hc,hx⟩:=wP hx;cases hx;have hc:c=0:=by simp_all
   subst hc;refine⟨.tuple #[.int .u64 (Int.ofNat ((a.toNat+b.toNat+0)%18446744073709551616)),.int .u64 (Int.ofNat ((a.toNat+b.toNat+0)/18446744073709551616))],w,M,?_,⟨rfl,rfl,rfl,hH,rfl,ok,.refl M⟩,?_⟩
   ·rw[run_callFunc_extern hf qh hb hn he,vO4 a b w];rfl
   ·exact⟨#[.int .u64 (Int.ofNat ((a.toNat+b.toNat+0)%18446744073709551616)),.int .u64 (Int.ofNat ((a.toNat+b.toNat+0)/18446744073709551616))],rfl,rfl,rfl,trivial⟩
 ·exact hy.elim
abbrev sP (d i:Nat):Nat×VS:=(d,.c (.lit (.ptr (1001000+i) 0)))
abbrev sO (d i:Nat):Nat×VS:=(d,.c (.lit (.osl (1001000+i) none)))
abbrev sI (d:Nat):Nat×VS:=(d,.c (.int .i64))
abbrev oB (l:List CS):OS:=.box true l
abbrev oA (t:Ty):OS:=.arr true t
abbrev sp (l:List (Nat×VS))(o:List OS):zE:=⟨l,o,[]⟩
def zJ (f:Nat)(as:List AS)(rs:RS){X:Type}(s:Nat→AD as→Option X)(pk:X→RL rs.cells)(_:RL rs.cells→X):Nat×nU:=(f,fun k nm args h=>o6 as rs (s k) pk nm args h)
def yB (f:Nat)(as:List AX)(rs:RS)(os:List (List RC))(ns:Nat){X:Type}(s:Nat→XD as→Option X)(pk:X→RL (rs.cells++os.flatten))(_:RL (rs.cells++os.flatten)→X):Nat×nU:=(f,fun k nm args h=>sH as rs os ns (s k) pk nm args h)
def uD (f:Nat)(as:List AX)(rs:RS)(os:List (List RC))(ns:Nat)(dw:RS)(dy:List (List RC))(fE:Nat){X Y:Type}(s:Nat→XD as→Option (X⊕Y))(pk:X→RL (rs.cells++os.flatten))(iV:Y→RL (dw.cells++dy.flatten))(_:RL (rs.cells++os.flatten)→X)(_:RL (dw.cells++dy.flatten)→Y):Nat×nU:=(f,fun k nm args h=>uw as rs os ns dw dy fE (s k) pk iV nm args h)
theorem fA {E:Env}(fn:Func)(A:zW){f:Nat}{as:List AS}{rs:RS}{X:Type}{s:Nat→AD as→Option X}{pk:X→RL rs.cells}{up:RL rs.cells→X}(hE:jJ E)(hL:wN E.P A 1000 0 fn.ntmps (zT fn))
  (aV:XS E A 0 fn as rs up s:=by intro k d;kernel_rfl)
  (hf:E.P.funcs[f]? =some fn:=by kernel_rfl) (hb:fn.body.isNone=false:=by kernel_rfl) (hn:(fn.name== "runtime.NumGoroutine")=false:=by kernel_rfl) (fD:∀d,pk (up d)=d:=by intro d;rfl):
  zC E.P (zJ f as rs s pk up):=vR7 hE aV hL hf hb hn fD
theorem fX {E:Env}(fn:Func)(A:zW)(na:Nat){f:Nat}{as:List AX}{rs:RS}{os:List (List RC)}{ns:Nat}{X:Type}{s:Nat→XD as→Option X}{pk:X→RL (rs.cells++os.flatten)}{up:RL (rs.cells++os.flatten)→X}(hE:jJ E)(hL:wN E.P A 1000 na fn.ntmps (zT fn))
  (aV:yUe E A na fn as rs os ns up s:=by intro k d;kernel_rfl)
  (hf:E.P.funcs[f]? =some fn:=by kernel_rfl) (hb:fn.body.isNone=false:=by kernel_rfl) (hn:(fn.name== "runtime.NumGoroutine")=false:=by kernel_rfl) (kR:uv as na=true:=by kernel_rfl) (ng:(!as.any AX.isChn||A.loops.isEmpty)=true:=by kernel_rfl) (fD:∀d,pk (up d)=d:=by intro d;rfl):
  zC E.P (yB f as rs os ns s pk up):=vPy hE aV hL hf hb hn kR ng fD
theorem fN {E:Env}(fn:Func)(A:zW)(na:Nat){f:Nat}{as:List AX}{rs dw:RS}{os dy:List (List RC)}{ns fE:Nat}{X Y:Type}{s:Nat→XD as→Option (X⊕Y)}{pk:X→RL (rs.cells++os.flatten)}{up:RL (rs.cells++os.flatten)→X}{iV:Y→RL (dw.cells++dy.flatten)}{lD:RL (dw.cells++dy.flatten)→Y}(hE:jJ E)(hL:wN E.P A 1000 na fn.ntmps (zT fn))
  (aV:vF6 E A na fn as rs os ns dw dy fE up lD s:=by intro k d;kernel_rfl)
  (hf:E.P.funcs[f]? =some fn:=by kernel_rfl) (hb:fn.body.isNone=false:=by kernel_rfl) (hn:(fn.name== "runtime.NumGoroutine")=false:=by kernel_rfl) (kR:uv as na=true:=by kernel_rfl) (ng:(!as.any AX.isChn||A.loops.isEmpty)=true:=by kernel_rfl) (fD:∀d,pk (up d)=d:=by intro d;rfl) (nY:∀d,iV (lD d)=d:=by intro d;rfl):
  zC E.P (uD f as rs os ns dw dy fE s pk iV up lD):=XT hE aV hL hf hb hn kR ng fD nY
def xI (f:Nat)(sh:Bool)(t:Ty)(r:RC)(s:Nat→List t.den→Option r.den):Nat×nU:=
 (f,fun k nm args h=>o6 [.c (.dat sh t)] (.c r) (fun d=>s k d.1) (fun x=>(x,())) nm args h)
theorem fC {E:Env}(fn:Func)(A:zW){f:Nat}{sh:Bool}{t:Ty}{r:RC}{s:Nat→List t.den→Option r.den}(hE:jJ E)(hL:wN E.P A 1000 0 fn.ntmps (zT fn))
  (cO:∀k,kE E A k 1000 0 fn [.c .nsl] (mj []) (nc (.c r) (fun d=>d.1))=s k []:=by intro k;kernel_rfl)
  (aV:∀k xs,kE E A k 1000 0 fn [.c (.nfl sh t xs)] (mj []) (nc (.c r) (fun d=>d.1))=s k xs:=by intro k xs;kernel_rfl)
  (hf:E.P.funcs[f]? =some fn:=by kernel_rfl) (hb:fn.body.isNone=false:=by kernel_rfl) (hn:(fn.name== "runtime.NumGoroutine")=false:=by kernel_rfl):zC E.P (xI f sh t r s):=
 vMk (rs:=.c r) (pack:=fun x=>(x,())) (unpack:=fun d=>d.1) hE cO aV hL hf hb hn
def qZ {T:Type}(z:T)(b:T→T):Nat→T
 |0=>z
 |n+1=>b (qZ z b n)
theorem lp {E:Env}{A:zW}{na nt:Nat}{b:Code}(L:zV){Y:Type}(mQ:wx L.outs→L.X)(c:Y→rU L.ins→Option L.X)(f:Nat→Nat→Y)(bf:Nat→Y→Y)(hE:jJ E)(hL:wN E.P A 1000 na nt b)
  (hs:yGu E A na nt b L.ins L.outs mQ c bf:=by intro k rec d;kernel_rfl)
  (hX:∀o R K,L.elim (1000+iw) (mQ o) R K=DY (1000+iw) L.outs o K:=by intro o R K;first|rfl|(rcases o with o|o<;>rfl)|(rcases o with o|o|o<;>rfl)|(rcases o with o|o|o|o<;>rfl)|(rcases o with o|o|o|o|o<;>rfl))
  (h0:∀k d,c (f k 0) d=none:=by intros;rfl) (h1:∀k n,f k (n+1)=bf k (f k n):=by intros;rfl) (hf:(⟨L.ins,L.outs,L.X,fun k d=>c (f k k) d,L.elim⟩:zV)=L:=by rfl):zU E.P 1000 na nt b L:=by
 rw[←hf];exact XR hE hs f _ hX hL h0 h1
def ins {α:Type}(b:Nat)(xs:List α)(i:Int)(ys:List α):Option (List α):=
 bif decide (0≤i)&&decide (i≤(xs.length:Int))&&Nat.beq ys.length 1&&zO (xs.length+1) b then some (xs.take i.toNat++(ys++xs.drop i.toNat)) else none
end Go.Ab
