/- part 3 -/
import Derived.Test.YtmbkgcillafidaaGreatGiAbC
import Derived.Laws.Externs
set_option linter.unusedVariables false
set_option linter.unusedSimpArgs false
set_option linter.unusedSectionVars false
namespace Go.Ab
theorem vA8:∀a b,vU (a++b)=vU a++vU b
 |[],_=>rfl
 |(true,_)::a,b
 |(false,_)::a,b=>by simp[vU,vA8 a b]
theorem KC {h}:∀{ls is cs bs},ki h ls is=some (cs,bs)→∀id∈vU bs,∃o,h id=some o∧o.owned=true
 |[],[],_,_,e=>by cases e;nofun
 |(io,l)::ls,i::is,cs,bs,e=>by
  unfold ki at e;split at e
  ·rename_i cells rest BP h1 h2;obtain⟨_,e⟩:=wQ e;cases e;intro id an;cases io with
   |false=>exact KC h2 id an
   |true=>
    rcases List.mem_cons.1 an with rfl|an
    ·unfold EJ at h1;split at h1
     ·rename_i c hc;exact⟨_,hc,rfl⟩
     all_goals simp_all
    ·exact KC h2 id an
  ·cases e
theorem Yj {h}{s:AX}{a cs bs}(e:s.get h a=some (cs,bs)):∀id∈vU bs,∃o,h id=some o∧o.owned=true:=by
 unfold AX.get at e;split at e
 ·cases e;nofun
 ·obtain⟨_,e⟩:=wQ e;cases e;nofun
 ·exact KC e
 ·obtain⟨_,e⟩:=wQ e;exact KC e
 ·split at e
  ·exact KC e
  ·cases e
 ·cases e
theorem yUg {h}:∀{l as cs bs},kR h l as=some (cs,bs)→l.length=as.length∧∀id∈vU bs,∃o,h id=some o∧o.owned=true
 |[],[],_,_,e=>by cases e;exact⟨rfl,nofun⟩
 |s::l,a::as,cs,bs,e=>by
  unfold kR at e;split at e
  ·rename_i c1 b1 c2 b2 h1 h2;cases e;obtain⟨k1,k2⟩:=yUg h2;refine⟨by simp[k1],fun id an=>?_⟩;rw[vA8] at an;rcases List.mem_append.1 an with an|an
   ·exact Yj h1 id an
   simp_all
  ·cases e
theorem yPl {h}:∀{l cs d},qf h l cs=some d→∀id∈jR l cs,∃o,h id=some o∧o.owned=true
 |[],[],_,_=>nofun
 |x::l,c::cs,d,e=>by
  unfold qf at e;split at e
  ·rename_i y ys h1 h2;have ih:=yPl h2;unfold Kt at h1;split at h1
   ·exact ih
   ·intro jd an;rcases List.mem_cons.1 an with rfl|an
    ·split at h1
     ·rename_i s xs hs;exact⟨_,hs,rfl⟩
     ·cases h1
    ·simp_all
   ·intro jd an;rcases List.mem_cons.1 an with rfl|an
    ·split at h1
     ·rename_i s xs hs;exact⟨_,hs,rfl⟩
     ·cases h1
    ·exact ih jd an
   ·intro jd an;rcases List.mem_cons.1 an with rfl|an
    ·split at h1
     ·rename_i xs hs;exact⟨_,hs,rfl⟩
     ·cases h1
    simp_all
   ·exact ih
   ·cases h1
  ·cases e
theorem yIf {a b}(h:X8 a b=true):∀id∈b,id∉a:=fun id hb ha=>by
 have h:=List.all_eq_true.1 h id ha;have:b.any (Nat.beq id)=true:=List.any_eq_true.2 ⟨id,hb,by simp⟩;simp_all
theorem yIk:∀os cs,(xH os cs).length=os.length
 |[],_=>rfl
 |_::os,cs=>by simp[xH,yIk os]
theorem vKj {M L}{P:zN→Nat→Prop}{R}:∀{ids js css Bs},zO (mw M L) ids js→pn R js css Bs→pn (fun id cs B=>∃jd,mw M L id jd∧R jd cs B) ids css Bs
 |[],[],[],[],_,_=>trivial
 |_::_,_::_,_::_,_::_,h,k=>⟨⟨_,h.1,k.1⟩,vKj (P:=P) h.2 k.2⟩
theorem zN.gone_ok {M}(ok:Ok M){nm}(aV:M.h nm=none) C:
  Ok (M.add nm .gone C)∧yV M (M.add nm .gone C)∧(∀b,qU (M.add nm .gone C) b→qU M b):=by
 have x:yV M (M.add nm .gone C):=⟨fun id D h=>by
  have bx:id≠nm:=fun e=>by rw[e,ok.non nm aV] at h;cases h
  exact⟨D,by show κset M.κ nm _ id=_;rw[κset_ne _ _ bx];exact h,D.le_refl⟩,fun _ h=>h,fun _ h=>h,fun _ _=>rfl,fun _ _=>rfl,fun _ _=>rfl⟩
 have at':∀o,(M.add nm .gone C).h nm=some o→o=.gone:=fun o h=>by
  have e1:(M.add nm .gone C).h nm=some .gone:=yW _ _ _;simp_all
 refine⟨Ok.build ok x (fun id=>id=nm) (fun id h=>yZ _ _ h) (fun id h=>κset_ne _ _ h) (fun _ _ _ _ _ _ _ _ _=>rfl) (fun id o' D h1 h2 h3 h4 b bg=>(ok.own b ⟨id,o',D,h2,h3,h4,bg⟩).1) (Nat.le_refl _)
  (fun id o' e h=>?_) (fun id e h=>?_) (fun id o' D b e h1 h2 h3 h4=>?_) ok.GF ok.Flt,x,fun b bg=>?_⟩
 ·subst e;rw[at' o' h];exact⟨_,κset_same _ _ _,trivial⟩
 ·have e1:(M.add id .gone C).h id=some .gone:=yW _ _ _;simp_all
 ·subst e;rw[at' o' h1] at h2;cases h2
 ·obtain⟨id,o',D,h1,h2,h3,h4⟩:=bg;by_cases e:id=nm
  ·subst e;rw[at' o' h1] at h2;cases h2
  ·exact⟨id,o',D,by rw[←h1];exact(yZ _ _ e).symm,h2,by rw[←h3];exact(κset_ne _ _ e).symm,h4⟩
theorem vMa:∀{n nm Bs M},Ok M→(∀i,i<n→M.h (nm+i)=none)→Bs.length=n→
  ∃M':zN,M'.H=M.H∧M'.G=M.G∧M'.F=M.F∧M'.h=qL M.h (qg (mr nm n))∧Ok M'∧yV M M'∧(∀b,qU M' b→qU M b)∧zO (fun id B=>∃C,M'.κ id=some C∧C.blk=some B) (mr nm n) Bs
 |0,nm,[],M,ok,_,_=>⟨M,rfl,rfl,rfl,rfl,ok,.refl M,by simp,trivial⟩
 |n+1,nm,B::Bs,M,ok,hf,hl=>by
  obtain⟨k1,k2,k3⟩:=zN.gone_ok ok (hf 0 (by omega)) ⟨some B,0,0,0,[]⟩;obtain ⟨M', a1, a2, a3, a4, a5, a6, a7, a8⟩ := vMa (n := n) (nm := nm + 1) (Bs := Bs) k1 (fun i hi=>by
   have:=hf (i+1) (by omega);rw[show nm+1+i=nm+(i+1) by omega,←this];exact yZ _ _ (by omega)) (by simp_all)
  refine⟨M',a1,a2,a3,a4,a5,yV.trans (M:=M) (M':=M.add nm .gone ⟨some B,0,0,0,[]⟩) (Nat.le_refl _) k2 a6,by grind,?_,a8⟩;obtain⟨C,h1,h2⟩:=a6.κ nm _ (κset_same _ _ _);exact⟨C,h1,h2.blk⟩
theorem Yk {L M ids js}(hs:zO (mw M L) ids js):∀{l cs ds vs},sM l js cs=true→zO (qA L) cs vs→zO (qA M) ds vs→zO (qA M) (BO l ids ds) vs
 |[],cs,ds,vs,_,_,hd=>by exact hd
 |none::l,[],[],[],_,_,_=>trivial
 |none::l,c::cs,d::ds,v::vs,h,hc,hd=>⟨hd.1,Yk hs (l:=l) h hc.2 hd.2⟩
 |some j::l,c::cs,d::ds,v::vs,h,hc,hd=>by
  obtain⟨id,rfl,an,h'⟩:=vL9 h;refine⟨?_,Yk hs h' hc.2 hd.2⟩;have hj:=(List.getElem?_eq_some_iff.1 an).1;have hi:j<ids.length:=by rw[hs.length];exact hj
  have:=hs.get j hi hj;rw[(List.getElem?_eq_some_iff.1 an).2] at this;obtain⟨C,D,B,q1,q2,q3,q4⟩:=this;obtain⟨D',B',p1,p2,p3⟩:=hc.1;rw[q3] at p1;cases p1;rw[q4] at p2;cases p2;rw[List.getElem?_eq_getElem hi];exact⟨C,B,q1,q2,p3⟩
 |_,[],_::_,[],_,_,hd=>hd.elim
 |_,_::_,[],[],_,hc,_=>hc.elim
theorem Yl {h ns cs nw}(e:X6 h ns cs=some nw):nw.length=ns:=by
 unfold X6 at e;cases h0:Nat.beq ns 0 with
 |true=>simp_all
 |false=>
  rw[h0] at e;split at e
  ·exact(Yc e).2
  ·cases e
def PO (w:World)(na:Nat)(chn:Bool)(M:zN)(vs:Array Value)(rv:Value)(w':World)(v:zZ)(st:St):Prop:=
 ∃M':zN,M'.h=st.h∧M'.H=w'.heap∧Ok M'∧kh M M'∧(chn=true→Pq M M')∧zX M' v rv∧w'.os=w.os∧w'.tape=w.tape∧w'.output=w.output∧(∀t,t<na→zX M' (st.t t) (vs.getD t undef))
theorem vDu {n}:∀{l nm d hh},(∀j,j<l.length→n≠nm+j)→qL hh (pb nm l d).2 n=hh n
 |[],_,_,_,_=>rfl
 |r::l,nm,d,hh,h=>by
  show qL hh ((sF nm r d.1).2++(pb (nm+1) l d.2).2) n=_;rw[lE,vDu fun j hj=>by have:=h (j+1) (by simp_all);omega,vHg (by have:=h 0 (by simp);omega)]
theorem Ym {M}(ok:Ok M){io id cells}(h:EJ M.h io id=some cells):∃C B,M.κ id=some C∧C.blk=some B:=by
 have h':EB M.h id=some cells:=by
  unfold EJ at h;unfold EB;grind
 obtain⟨C,h1,B,_,_,h2,_⟩:=yI9 ok h';simp_all
theorem PQ {M}(ok:Ok M):∀{ls is cs bs},ki M.h ls is=some (cs,bs)→∀q∈bs,∃C B,M.κ q.2=some C∧C.blk=some B
 |[],[],_,_,e=>by cases e;simp
 |(io,l)::ls,i::is,cs,bs,e=>by
  unfold ki at e;split at e
  ·rename_i cells rest BP h1 h2;obtain⟨_,e⟩:=wQ e;cases e;intro q hq;rcases List.mem_cons.1 hq with rfl|hq
   ·exact Ym ok h1
   ·exact PQ ok h2 q hq
  ·cases e
theorem yT8 {M}(ok:Ok M):∀{l as cs bs},kR M.h l as=some (cs,bs)→∀q∈bs,∃C B,M.κ q.2=some C∧C.blk=some B
 |[],[],_,_,e=>by cases e;simp
 |s::l,a::as,cs,bs,e=>by
  unfold kR at e;split at e
  ·rename_i c1 b1 c2 b2 h1 h2;cases e;intro q hq;rcases List.mem_append.1 hq with hq|hq
   ·unfold AX.get at h1;split at h1
    ·simp_all
    ·grind
    ·exact PQ ok h1 q hq
    ·obtain⟨_,h1⟩:=wQ h1;exact PQ ok h1 q hq
    ·split at h1
     ·exact PQ ok h1 q hq
     ·cases h1
    ·cases h1
   ·exact yT8 ok h2 q hq
  ·cases e
theorem vMp {L}(ok:Ok L):∀{os ids bs},EK L.h os ids=some bs→∀j∈ids,∃cells C B,L.h j=some (.box true cells)∧L.κ j=some C∧C.blk=some B
 |[],[],_,_=>by simp
 |o::os,n::ns,bs,h=>by
  unfold EK at h;split at h
  ·rename_i cells rest h1 h2;intro j hj;rcases List.mem_cons.1 hj with rfl|hj
   ·obtain⟨C,hC,B,vals,e,q1,_⟩:=ok.obj _ _ h1;simp_all
   ·exact vMp ok h2 j hj
  ·cases h
theorem vM2 {L}(ok:Ok L):∀{js:List Nat},js.Nodup→(∀j∈js,∃cells C B,L.h j=some (.box true cells)∧L.κ j=some C∧C.blk=some B)→(js.map fun id=>((L.κ id).bind qE.blk).getD 0).Nodup
 |[],_,_=>by simp
 |a::js,hn,bn=>by
  obtain⟨n1,n2⟩:=List.nodup_cons.1 hn;refine List.nodup_cons.2 ⟨fun my=>?_,vM2 ok n2 (by grind)⟩;obtain⟨j,hj,BV⟩:=List.mem_map.1 my;obtain⟨c1',C,B,q1,q2,q3⟩:=bn a (by simp);obtain⟨c2',D,B',q4,q5,q6⟩:=bn j (by grind);have BV:((L.κ j).bind qE.blk).getD 0=((L.κ a).bind qE.blk).getD 0:=BV;rw[q2,q5] at BV;have BV:(D.blk.getD 0)=(C.blk.getD 0):=BV;rw[q3,q6] at BV;subst BV;exact ok.disj a j _ _ C D B' (by grind) q1 q4 rfl rfl q2 q5 (by simp[qE.fp,q3]) (by simp[qE.fp,q6])
theorem yMr {na as}(kT:uy as na=true){nm n args h u0 io rows d}(he:BR as nm n args h=some (u0,io,rows,d)) M w vs (hh:M.h=h)(hH:M.H=w.heap)(ok:Ok M)(hv:zO (zX M) args vs.toList):
  ∃Ml:zN,Ml.h=(kS as d).2∧Ml.H=w.heap∧Ok Ml∧zO (zX Ml) (kS as d).1 vs.toList∧
   ∀rv w' v0 st,PO w na (as.any AX.isChn) Ml vs rv w' v0 st→∀rs os ns dx,xG st as rs os ns v0=some dx→(rs.cells++os.flatten).length+ns≤n→
    ∃Mf,ug M w (Kz u0 io rows rs os ns nm dx).2 Mf w'∧zX Mf (Kz u0 io rows rs os ns nm dx).1 rv:=by
 unfold BR at he;split at he
 ·cases he
 rename_i eO u BJ;split at he
 ·cases he
 rename_i cs bs dm;split at he
 ·cases he
 rename_i d' hd;dsimp only at he;obtain⟨hc,he⟩:=nW he;cases he;simp only[Bool.and_eq_true] at hc;obtain⟨⟨⟨⟨⟨⟨oe,dq⟩,dM⟩,gX⟩,np⟩,EO⟩,EP⟩:=hc;subst hh;obtain⟨M1,a1,a2,a3,a4,a5,a6⟩:=yUu ok (jL.refl _) hv BJ;rw[←a2] at hd dm;obtain⟨ajx,mi⟩:=yUg dm;have aU:=yPl hd;have eg:oc M1 (vU bs++jR (as.flatMap AX.cells) cs):=fun id an=>(List.mem_append.1 an).elim (mi id) (aU id)
 have Yn:=Eo gX;obtain⟨Ml,lo,b2,b3,b4,b5,b6⟩:=Ye a3 a5 dm hd Yn (yIf np) (yIf EO) (Nat.le_of_ble_eq_true dM) EP eg;generalize iC:vU bs++jR (as.flatMap AX.cells) cs=aq at*
 refine⟨Ml,b2,by rw[lo.H,a1];exact hH,b3,b5,fun rv w' v0 st ⟨L0,c1,c2,c3,c4,ck,c5,c6,c7,c8,c9⟩ rs os ns dx hK hn=>?_⟩;unfold xG at hK;split at hK
 ·cases hK
 rename_i Yo kK;split at hK
 ·cases hK
 rename_i ccs nY;split at hK
 ·cases hK
 rename_i nw hnw;split at hK
 ·cases hK
 rename_i bcs uD;obtain⟨KD,PR⟩:=nW hK;clear hK;split at PR
 case h_2=>cases PR
 rename_i aT u1 BL;obtain⟨dJ,hK⟩:=nW PR;clear PR;rw[Bool.and_eq_true] at dJ;obtain⟨dJ,KE⟩:=dJ;have Yp:=Yl hnw;obtain⟨hlen,us,d1,d2⟩:=yUo nY c5;rw[←c1] at BL hK uD;obtain⟨js,xl⟩:∃js,js=Yo++nw:=⟨_,rfl⟩;rw[←xl] at uD KD KE;obtain⟨k1,k2,PS,k3,k4⟩:=yMl c3 uD;obtain⟨L,e1,e2,e3,e4,e5,e6⟩:=xA c3 (jL.refl _) (d1.append k3) BL;rw[←e2] at hK;have g:kh Ml L:=c4.trans e4.grow;obtain⟨f1,f2,f3⟩:=zN.overX_ok a3 e3 lo eg b4 g;have cU : zO (mw M1 L0) (vU bs) Yo := yTe dm kK a5 (fun i hi s hs uB=>by
  have bI:i<vs.size:=by simpa using hi
  have aS:i<na:=by
   have:=List.all_eq_true.1 kT (s,i) (List.mk_mem_zipIdx_iff_getElem?.2 hs);simp only[uB,Bool.not_true,Bool.false_or] at this;exact Va this
  have:=c9 i aS;rw[Nat.zero_add];have e:vs.getD i undef=vs.toList[i]:=by simp[bI]
  rw[←e];exact this) fun nq i q hq=>by
   obtain⟨C,B,p1,p2⟩:=yT8 a3 dm q (List.mem_of_getElem? hq);have hi:i<bs.length:=(List.getElem?_eq_some_iff.1 hq).1;have hκ:Ml.κ i=some C:=by
    rw[b6];unfold κX;have:Nat.ble wW i=false:=by
     cases h:Nat.ble wW i with
     |false=>rfl
     |true=>have h1:=Nat.le_of_ble_eq_true h;have h2:=Nat.le_of_ble_eq_true dM;omega
    rw[this,hq];exact p1
   obtain⟨C',p3,p4⟩:=ck nq i C hκ;rw[Nat.zero_add];exact⟨C,C',B,p1,p2,p3,p4.trans p2⟩
 have qh:∀i,i<n→(M1.overX L aq).h (nm+i)=none:=fun i hi=>by
  have h1:=Xv oe i hi;have h2:M1.h (nm+i)=none:=by
   rw[a2];rcases a6 (nm+i) with h|⟨own,t,xs,h,_⟩|⟨ver,xs,h,_⟩
   ·rw[a2] at h;rw[h];exact h1
   ·rw[h1] at h;cases h
   ·rw[h1] at h;cases h
  show qL M1.h (qg aq) (nm+i)=none;rw[xK,if_neg,h2];intro my;obtain⟨o,ho,_⟩:=eg _ my;rw[h2] at ho;cases ho
 have qd:∀i,i<(rs.cells++os.flatten).length→(M1.overX L aq).h (nm+i)=none:=fun i hi=>qh i (by omega)
 have uE:∀b,qU L b→b<M1.H.size→lJ M1 aq b:=fun b hb aS=>b4 b (g.own b hb (by rw[lo.H];exact aS))
 have xL:∀b,qU L b→¬(M1.overX L aq).F b:=fun b hb h=>by
  rcases h with h|h
  ·exact(uA a3 eg h).2 (uE b hb (a3.Flt b h))
  ·exact(e3.own b hb).1 (e3.GF b h)
 have xM:∀b,qU L b→¬qU (M1.overX L aq) b:=fun b hb h=>by
  obtain⟨q1,q2⟩:=f3 b h;exact q2 (uE b hb (a3.own b q1).2)
 obtain ⟨Mc, g1, g2, g3, g4, g5, g6, g7, g8⟩ := Xw e3 f1 ⟨rfl, rfl⟩ qd hK (Eo dJ) (xC hK) (fun id an C hC b hb=>by
  obtain⟨o,ho,iX⟩:=xC hK id an;have aN:qU L b:=⟨id,o,C,ho,iX,hC,hb⟩;exact⟨xM b aN,xL b aN,(e3.own b aN).2⟩)
 obtain ⟨Mg, n1, n2, n3, n4, n5, n6, n7, n8⟩ := vMa (n := ns) (nm := nm + (rs.cells ++ os.flatten).length) (Bs := nw.map fun id => ((L0.κ id).bind qE.blk).getD 0) g5 (fun i hi=>by
  rw[g4,vDu (fun j hj=>by omega),Nat.add_assoc];exact qh _ (by omega)) (by simp[Yp])
 have qi:∀j∈js,∃cells C B,L0.h j=some (.box true cells)∧L0.κ j=some C∧C.blk=some B:=vMp c3 uD;have PT:yV M1 Mg:=(f2.ext.trans f2.size g6).trans (by rw[g1];exact f2.size) n6;have Eu:zO (mw Mg L0) (vU bs) Yo:=cU.mono fun id jd hq=>by
  obtain⟨C,D,B,q1,q2,q3,q4⟩:=hq;obtain⟨C',p3,le⟩:=PT.κ id C q1;exact⟨C',D,B,p3,le.blk.trans q2,q3,q4⟩
 have ER:zO (mw Mg L0) (mr (nm+(rs.cells++os.flatten).length) ns) nw:=by
  have hl8:=n8.length;rw[List.length_map] at hl8;refine zO.of_get hl8 fun i h1 h2=>?_
  obtain⟨C,q1,q2⟩:=n8.get i h1 (by simpa using h2);obtain⟨cells,D,B,p1,p2,p3⟩:=qi nw[i] (by rw[xl];exact List.mem_append_right _ (List.getElem_mem _));refine⟨C,D,B,q1,?_,p2,p3⟩;rw[q2,List.getElem_map,p2];show some (D.blk.getD 0)=_;rw[p3];rfl
 have mz:zO (mw Mg L0) (vU bs++mr (nm+(rs.cells++os.flatten).length) ns) js:=by
  rw[xl];exact Eu.append ER
 have uF:zO (mw Mg L) (vU bs++mr (nm+(rs.cells++os.flatten).length) ns) js:=mz.mono fun id jd hq=>by
  obtain⟨C,D,B,q1,q2,q3,q4⟩:=hq;obtain⟨D',p3,le⟩:=e4.ext.κ jd D q3;exact⟨C,D',B,q1,q2,p3,le.blk.trans q4⟩
 have BW:=Yk uF KE e5 ((g8 _ e5).mono fun _ _ h=>h.ext n6);obtain⟨G,hG⟩:∃G,G=BO ((rs.cells++os.flatten).map RC.lnk) (vU bs++mr (nm+(rs.cells++os.flatten).length) ns) (pb nm (rs.cells++os.flatten) dx).1:=⟨_,rfl⟩;rw[←hG] at BW;have Eh:us.length=rs.cells.length:=by rw[←d1.length,hlen]
 have hgr:zO (qA Mg) (G.take rs.cells.length) us:=by
  have:=zO.take rs.cells.length BW
  rwa [show(us++PS).take rs.cells.length=us from by rw[←Eh,List.take_left]] at this
 have hgb:zO (qA Mg) (G.drop rs.cells.length) PS:=by
  have:=zO.drop rs.cells.length BW
  rwa [show(us++PS).drop rs.cells.length=PS from by rw[←Eh,List.drop_left]] at this
 have hHc:Mg.H=L0.H:=by rw[n1,g1];exact e1
 have KF:=vKj (P:=fun _ _=>True) mz (k4 hHc hgb);have xN:∀jd B,(∃cells,L0.h jd=some (.box true cells))→(∃C,L0.κ jd=some C∧C.blk=some B)→∃cells C,L.h jd=some (.box true cells)∧L.κ jd=some C∧B∈C.fp:=fun jd B ⟨cells,q1⟩ ⟨C,q2,q3⟩=>by
  obtain⟨C',q4,le⟩:=e4.ext.κ jd C q2;refine⟨cells,C',?_,q4,?_⟩
  ·rcases e6 jd with h|⟨own,t,xs,h,_⟩|⟨ver,xs,h,_⟩
   ·rw[h,q1]
   ·rw[q1] at h;cases h
   ·rw[q1] at h;cases h
  ·have:C'.blk=some B:=le.blk.trans q3;simp[qE.fp,this]
 have KG:∀b,b∈(js.map fun id=>((L0.κ id).bind qE.blk).getD 0)→qU L b:=fun b hb=>by
  obtain⟨j,hj,rfl⟩:=List.mem_map.1 hb;obtain⟨cells,C,B,q1,q2,q3⟩:=qi j hj;obtain⟨bF,D,p4,p5,p6⟩:=xN j B ⟨cells,q1⟩ ⟨C,q2,q3⟩;have e:((L0.κ j).bind qE.blk).getD 0=B:=by rw[q2];show C.blk.getD 0=B;rw[q3];rfl
  rw[e];exact⟨j,_,D,p4,rfl,p5,p6⟩
 have BX : pn (vC8 Mg) (vU bs ++ mr (nm + (rs.cells ++ os.flatten).length) ns) (xH os (G.drop rs.cells.length)) (js.map fun id => ((L0.κ id).bind qE.blk).getD 0) := pn.mono (fun id css B _ ⟨jd,q1,q2,⟨D0,q3,q3b,_⟩,q4⟩=>by
  obtain⟨C,D1,B',p1,p2,p3,p3b⟩:=q1;rw[q3] at p3;cases p3;rw[q3b] at p3b;cases p3b;obtain⟨cells,D,p4,p5,p6⟩:=xN jd B q2 ⟨_,q3,q3b⟩;have aN:qU L B:=⟨jd,_,D,p4,rfl,p5,p6⟩;refine⟨⟨C,p1,p2⟩,q4,fun ho=>?_,?_⟩
  ·rcases g7 B (n7 B ho) with h|⟨kd,PU,D',p7,p8⟩
   ·exact xM B aN h
   ·obtain⟨o,p9,uC⟩:=xC hK kd PU;refine e3.disj jd kd _ o D D' B (fun e=>?_) p4 p9 rfl uC p5 p7 p6 p8;exact yU0 hK kd PU true cells (by rw[←e];exact p4)
  ·rw[n3,g3];exact xL B aN) KF
 have hBs:(js.map fun id=>((L0.κ id).bind qE.blk).getD 0).Nodup:=vM2 c3 (Eo KD) qi;obtain⟨Mf,r1,r2,r3,r4,r5,r6,r7⟩:=yU3 n5 BX hBs;have xD:yT M1 Mf:=by
  have aN:∀b,qU Mf b→b<M1.H.size→qU M1 b:=fun b hb aS=>by
   rcases r7 b hb with hb|hb
   ·rcases g7 b (n7 b hb) with h|⟨id,an,C,hC,ED⟩
    ·exact(f3 b h).1
    ·obtain⟨o,ho,iX⟩:=xC hK id an;exact(uE b ⟨id,o,C,ho,iX,hC,ED⟩ aS).own eg
   ·exact(uE b (KG b hb) aS).own eg
  have PB:Mf.H=(M1.overX L aq).H:=r1.trans (n1.trans g1);refine⟨PT.trans ?_ r6,?_,fun b hb hn=>?_,aN,fun b hb aS=>?_,fun b hb aS=>?_⟩
  ·rw[n1,g1];exact f2.size
  ·rw[PB];exact f2.size
  ·rw[PB];exact f2.frame b hb hn
  ·rw[r2,n2,g2] at hb;exact f2.Gb b hb aS
  ·rw[r3,n3,g3] at hb;exact f2.Fb b hb aS
 have ql:(vU bs++mr (nm+(rs.cells++os.flatten).length) ns).length=(xH os (G.drop rs.cells.length)).length:=by
  rw[yIk,mz.length,k2]
 refine⟨Mf,⟨c6,c7,c8,?_,?_,r5,a4.trans xD⟩,?_⟩
 ·rw[r1,n1,g1];show L.H=_;rw[e1,c2]
 ·rw[r4,n4,g4];show _=qL M.h (u0++(qg (jR (as.flatMap AX.cells) cs)++((pb nm (rs.cells++os.flatten) dx).2++EL (vU bs++mr (nm+(rs.cells++os.flatten).length) ns) (xH os ((BO ((rs.cells++os.flatten).map RC.lnk) (vU bs++mr (nm+(rs.cells++os.flatten).length) ns) (pb nm (rs.cells++os.flatten) dx).1).drop rs.cells.length)))));rw[←hG,lE,lE,lE,←a2];refine vLj ql fun m hm=>?_
  rw[List.mem_append,not_or] at hm;rw[xK,if_neg hm.2];refine BA ?_;show qL M1.h (qg aq) m=_;rw[xK,xK,←iC];simp[hm.1]
 ·show zX Mf (rs.mk ((BO ((rs.cells++os.flatten).map RC.lnk) (vU bs++mr (nm+(rs.cells++os.flatten).length) ns) (pb nm (rs.cells++os.flatten) dx).1).take rs.cells.length)) rv;rw[←hG];exact d2 Mf _ (hgr.mono fun _ _ h=>h.ext r6)
theorem yWa {P na f}(cg:∀vs w,(callFunc f vs).run P w=.ok (.enter f vs) w)
  {as rs os ns X} {S:XD as→Option X} {pack unpack} (fy:∀d,pack (unpack d)=d) (kT:uy as na=true)
  (mA:∀d x,S d=some x→∀M w vs,M.h=(kS as d).2→M.H=w.heap→Ok M→zO (zX M) (kS as d).1 vs.toList→Calls P f vs w fun
   |.returned rv,w'=>∃(v:zZ) (st:St),Ky as rs os ns unpack v st=some x∧PO w na (as.any AX.isChn) M vs rv w' v st
   |_,_=>False)
  {nm args h v u} (hy:yQ (sQ as rs os ns S pack nm args h) v u):uh P f args h v u:=by
 intro M w vs hh hH ok hv;refine .inl ⟨cg vs w,?_⟩;unfold sQ at hy;split at hy
 ·exact hy.elim
 rename_i u0 io rows d he;obtain⟨x,hx,rfl,rfl⟩:=hy;obtain⟨Ml,b1,b2,b3,b4,b5⟩:=yMr kT he M w vs hh hH ok hv;refine Calls.mono (mA d x hx Ml w vs b1 b2 b3 b4) fun e w' hl=>?_
 cases e with
 |panicked _=>omega
 |outgrown=>omega
 |returned rv=>
  obtain⟨v0,st,hK,hl⟩:=hl;have hK:xG st as rs os ns v0=some (pack x):=by
   unfold Ky at hK;grind
  grind
theorem Yq {P na f}(cg:∀vs w,(callFunc f vs).run P w=.ok (.enter f vs) w)
  {as rs dw os dy ns fz X Y} {S:XD as→Option (X⊕Y)} {pk up iZ lI}
  (fy:∀d,pk (up d)=d) (og:∀d,iZ (lI d)=d) (kT:uy as na=true)
  (mA:∀d x,S d=some x→∀M w vs,M.h=(kS as d).2→M.H=w.heap→Ok M→zO (zX M) (kS as d).1 vs.toList→Calls P f vs w fun
   |.returned rv,w'=>∃(v:zZ) (st:St),PI as rs os ns dw dy fz up lI v st=some x∧PO w na (as.any AX.isChn) M vs rv w' v st
   |_,_=>False)
  {nm args h v u} (hy:yQ (uz as rs os ns dw dy fz S pk iZ nm args h) v u):uh P f args h v u:=by
 intro M w vs hh hH ok hv;refine .inl ⟨cg vs w,?_⟩;unfold uz at hy;split at hy
 ·exact hy.elim
 rename_i u0 io rows d he;obtain⟨Ml,b1,b2,b3,b4,b5⟩:=yMr kT he M w vs hh hH ok hv;rcases hy with⟨x,hx,rfl,rfl⟩|⟨x,hx,rfl,rfl⟩<;>
 ·refine Calls.mono (mA d _ hx Ml w vs b1 b2 b3 b4) fun e w' hl=>?_
  cases e with
  |panicked _=>omega
  |outgrown=>omega
  |returned rv=>
   obtain⟨v0,st,hK,hl⟩:=hl;unfold PI at hK;grind
theorem yMv {E}(hE:gD E)(hS:kg E.sums)(hm:E.P.follows .mixedOrders=true){A k pre na f fn}(hf:E.P.funcs[f]? =some fn)(hL:∀c,fn.body=some c→wS E.P A pre na fn.ntmps c){chn}(nq:(!chn||A.loops.isEmpty)=true)
  {R K} {x:R} {args h} (aW:kG E A k pre na fn args h K=some x) {M w vs} (h1:M.h=h) (h2:M.H=w.heap) (h3:Ok M) (h4:zO (zX M) args vs.toList):
  Calls E.P f vs w fun
   |.returned rv,w'=>∃(v:zZ) (st:St),K v st=some x∧PO w na chn M vs rv w' v st
   |_,_=>False:=by
 refine Calls.mono (Xf hE hS hm hf hL aW h1 h2 h3 h4) fun e w' hl=>?_
 cases e with
 |panicked _=>omega
 |outgrown=>omega
 |returned rv=>
  obtain⟨M',v,st,a1,a2,a3,a4,a5,a6,a7,a8,a9,KH,KI⟩:=hl;refine⟨v,st,a1,M',a2,a3,a4,a5,fun hc=>a6 ?_,a7,a8,a9,KH,KI⟩;simp_all
theorem Yr {E}(hE:gD E)(hS:kg E.sums)(hm:E.P.follows .mixedOrders=true){A k pre na f fn}(hf:E.P.funcs[f]? =some fn)(hL:∀c,fn.body=some c→wS E.P A pre na fn.ntmps c)(cg:∀vs w,(callFunc f vs).run E.P w=.ok (.enter f vs) w)
  {as rs os ns X} {S:XD as→Option X} {pack unpack} (fy:∀d,pack (unpack d)=d) (kT:uy as na=true) (nq:(!as.any AX.isChn||A.loops.isEmpty)=true)
  (aW:∀d,kG E A k pre na fn (kS as d).1 (kS as d).2 (Ky as rs os ns unpack)=S d)
  {nm args h v u} (hy:yQ (sQ as rs os ns S pack nm args h) v u):uh E.P f args h v u:=
 yWa cg fy kT (fun d x hx M w vs h1 h2 h3 h4=>yMv hE hS hm hf hL nq ((aW d).trans hx) h1 h2 h3 h4) hy
theorem Ys {E}(hE:gD E)(hS:kg E.sums)(hm:E.P.follows .mixedOrders=true){A k pre na f fn}(hf:E.P.funcs[f]? =some fn)(hL:∀c,fn.body=some c→wS E.P A pre na fn.ntmps c)(cg:∀vs w,(callFunc f vs).run E.P w=.ok (.enter f vs) w)
  {as rs dw os dy ns fz X Y} {S:XD as→Option (X⊕Y)} {pk up iZ lI}
  (fy:∀d,pk (up d)=d) (og:∀d,iZ (lI d)=d) (kT:uy as na=true) (nq:(!as.any AX.isChn||A.loops.isEmpty)=true)
  (aW:∀d,kG E A k pre na fn (kS as d).1 (kS as d).2 (PI as rs os ns dw dy fz up lI)=S d)
  {nm args h v u} (hy:yQ (uz as rs os ns dw dy fz S pk iZ nm args h) v u):uh E.P f args h v u:=
 Yq cg fy og kT (fun d x hx M w vs h1 h2 h3 h4=>yMv hE hS hm hf hL nq ((aW d).trans hx) h1 h2 h3 h4) hy
section
variable {h h':Hp}
theorem vQg {x c}(hh:∀id∈vO c,h id=h' id):Kt h x c=Kt h' x c:=by
 unfold Kt;split
 ·exact vBv hh
 ·rename_i id;rw[hh id (by simp[vO])]
 ·rename_i id;rw[hh id (by simp[vO])]
 ·rename_i id;rw[hh id (by simp[vO])]
 ·rfl
 ·rfl
theorem vHv:∀{l cs},(∀id∈cs.flatMap vO,h id=h' id)→qf h l cs=qf h' l cs
 |[],[],_
 |[],_::_,_
 |_::_,[],_=>rfl
 |p::l,c::cs,hh=>by
  simp  at hh;unfold qf;rw[vQg fun id hi=>hh id (.inl hi),vHv (by grind)]
theorem vQf {ls}:ki h ls []=ki h' ls []:=by
 cases ls<;>rfl
theorem Yt {s:AX}{a}(hb:wU a=false):s.get h a=s.get h' a:=by
 unfold AX.get;cases s with
 |c p=>grind
 |agg l=>grind
 |ptr io l=>
  cases a with
  |c x=>cases x<;>first|rfl|(exact absurd hb (by simp[wU]))
  |_=>rfl
 |fn f bA=>
  cases a with
  |c x=>cases x with
   |fn g ids=>
    cases ids with
    |nil=>dsimp only;rw[vQf]
    |cons _ _=>exact absurd hb (by nofun)
   |_=>rfl
  |_=>rfl
 |chn ls=>
  cases a with
  |c x=>cases x<;>first|rfl|(exact absurd hb (by nofun))
  |_=>rfl
theorem Yu {s:AX}{a cs bs}(hb:wU a=false)(e:s.get h a=some (cs,bs)):∀id∈cs.flatMap vO,id∈yU a:=by
 unfold AX.get at e;split at e
 ·cases e;intro id an;simp  at an;exact an
 ·obtain⟨_,e⟩:=wQ e;cases e;exact fun id an=>an
 ·exact absurd hb (by nofun)
 ·rename_i f bA g ids;obtain⟨_,e⟩:=wQ e;cases ids with
  |nil=>cases bA with
   |nil=>cases e;simp
   |cons _ _=>cases e
  |cons _ _=>exact absurd hb (by nofun)
 ·exact absurd hb (by nofun)
 ·cases e
theorem yVw:∀{l as},as.any wU=false→kR h l as=kR h' l as
 |[],[],_
 |[],_::_,_
 |_::_,[],_=>rfl
 |s::l,a::as,hb=>by
  simp only[List.any_cons,Bool.or_eq_false_iff] at hb;unfold kR;rw[Yt (h:=h) (h':=h') hb.1,yVw hb.2]
theorem yT9:∀{l as cs bs},as.any wU=false→kR h l as=some (cs,bs)→∀id∈cs.flatMap vO,id∈as.flatMap yU
 |[],[],cs,bs,_,e=>by cases e;simp
 |s::l,a::as,cs,bs,hb,e=>by
  simp only[List.any_cons,Bool.or_eq_false_iff] at hb;unfold kR at e;split at e
  ·rename_i c1 b1 c2 b2 e1 e2;cases e;intro id an;rw[List.flatMap_append,List.mem_append] at an;rw[List.flatMap_cons,List.mem_append];rcases an with an|an
   ·exact .inl (Yu hb.1 e1 id an)
   ·exact .inr (yT9 hb.2 e2 id an)
  ·cases e
theorem vXh {s a}(hh:∀id∈yU a,h id=h' id):xI h s a=xI h' s a:=by
 unfold xI;split
 ·rename_i p x;have:=EF (h:=h) (h':=h') (l:=[p.isKept]) (cs:=[x]) (by rw[EE];exact hh);simp_all
 ·rename_i l xs;have:=EF (h:=h) (h':=h') (l:=l.map PC.isKept) (cs:=xs) hh;simp_all
 ·rfl
theorem Yv {s a a' u}(e:xI h s a=some (a',u)):(∀id∈yU a',id∈yU a)∧(wU a=false→wU a'=false):=by
 unfold xI at e;split at e
 ·rename_i p x;split at e
  ·rename_i y u1 e1;cases e;refine⟨fun id an=>by have:=EG e1 id (by rw[EE];omega);rwa [EE] at this,fun hb=>?_⟩;cases hk:p.isKept with
   |false=>rw[hk] at e1;cases e1;exact hb
   |true=>
    rw[hk] at e1;unfold gF at e1;split at e1
    ·rename_i c1 u2 nh sj e2 e3;cases e1;cases hy:wU (.c y) with
     |false=>rfl
     |true=>rw[(XP e2).2 hy] at hb;cases hb
    ·cases e1
  ·cases e
 ·split at e
  ·rename_i ys u1 e1;cases e;exact⟨EG e1,fun _=>rfl⟩
  ·cases e
 simp_all
theorem vAj:∀{l as},(∀id∈as.flatMap yU,h id=h' id)→sN h l as=sN h' l as
 |[],as,_=>by rfl
 |_::_,[],_=>rfl
 |s::l,a::as,hh=>by
  simp  at hh;unfold sN;rw[vXh fun id hi=>hh id (.inl hi),vAj (by grind)]
theorem vJu:∀{l as fc u},sN h l as=some (fc,u)→(∀id∈fc.flatMap yU,id∈as.flatMap yU)∧(as.any wU=false→fc.any wU=false)
 |[],as,fc,u,e=>by cases as<;>cases e<;>exact by simp
 |s::l,[],fc,u,e=>by cases e;simp
 |s::l,a::as,fc,u,e=>by
  unfold sN at e;split at e
  ·rename_i a1 u1 XB sj e1 e2;obtain⟨k1,k2⟩:=Yv e1;obtain⟨k3,k4⟩:=vJu e2;grind
  ·cases e
theorem yVg {as nm n args}(h1:args.any wU=false→∀id,(id∈args.flatMap yU∨nP nm id=true)→h id=h' id)(h2:args.any wU=true→h=h'):BR as nm n args h=BR as nm n args h':=by
 cases hb:args.any wU with
 |true=>rw[h2 hb]
 |false=>
  have hh:=h1 hb;unfold BR;rw[vAj (h:=h) (h':=h') (by grind)];cases e:sN h' as args with
  |none=>rfl
  |some p=>
   obtain⟨eO,u⟩:=p;obtain⟨k1,k2⟩:=vJu e;dsimp only;rw[yVw (h:=qL h u) (h':=qL h' u) (k2 hb)];cases e2:kR (qL h' u) as eO with
   |none=>rfl
   |some q=>
    obtain⟨cs,bs⟩:=q;dsimp only;rw[vHv (h:=qL h u) (h':=qL h' u) fun id an=>BA (hh id (.inl (k1 id (yT9 (k2 hb) e2 id an))))];cases qf (qL h' u) (as.flatMap AX.cells) cs with
    |none=>rfl
    |some d=>
     cases hle:Nat.ble n 100 with
     |false=>simp
     |true=>
      have hle:=Nat.le_of_ble_eq_true hle;rw [XS (h := h) (h' := h') fun i hi => hh _ (.inr (by
       simp only[nP,Bool.and_eq_true];exact⟨by simp,by simp[Nat.blt_eq];omega⟩))]
end
theorem yKx {as rs os ns X}{S:Nat→XD as→Option X}{pack}:Kn fun k nm args h=>sQ as rs os ns (S k) pack nm args h:=by
 intro k nm args h h' h1 h2;show sQ as rs os ns (S k) pack nm args h=sQ as rs os ns (S k) pack nm args h';unfold sQ;rw[yVg h1 h2]
theorem Yw {as rs dw os dy ns fz X Y}{S:Nat→XD as→Option (X⊕Y)}{pk iZ}:Kn fun k nm args h=>uz as rs os ns dw dy fz (S k) pk iZ nm args h:=by
 intro k nm args h h' h1 h2;show uz as rs os ns dw dy fz (S k) pk iZ nm args h=uz as rs os ns dw dy fz (S k) pk iZ nm args h';unfold uz;rw[yVg h1 h2]
structure zC (P:Program) (r:Nat×nZ):Prop where
 ok:vIr P r
 loc:Kn r.2
def ES (P:Program):List (Nat×nZ)→Prop
 |[]=>True
 |r::l=>zC P r∧ES P l
theorem ES.all {P}:∀{l},ES P l→∀r∈l,zC P r
 |a::l,h,r,hr=>by
  rcases List.mem_cons.1 hr with rfl|hr
  ·exact h.1
  ·exact ES.all h.2 r hr
structure jH (E:Env):Prop where
 ok:gD E
 loc:kg E.sums
 ord:E.P.follows .mixedOrders=true
theorem ET {P l eqT}(he:JL P eqT)(hm:P.follows .mixedOrders=true)(h:ES P l):jH ⟨P,eqT,eP l⟩:=
 ⟨⟨he,vMr fun r hr=>(h.all r hr).ok⟩,vCq fun r hr=>(h.all r hr).loc,hm⟩
theorem oh {P l}(hm:P.follows .mixedOrders=true)(h:ES P l):jH ⟨P,fun _=>false,eP l⟩:=ET XV hm h
theorem loops1 {P A pre na nt c L}(h:zT P pre na nt (zR c 0) L)(hn:(n9 c).length=1:=by kernel_rfl) (hl:xh A (zR c 0)=some L:=by kernel_rfl):wS P A pre na nt c:=
 mq hn (by grind)
theorem zF {P A pre na nt c}(hn:(n9 c).length=0:=by kernel_rfl):wS P A pre na nt c:=vY8 hn
def vJ0 (E:Env)(A:zV)(na nt:Nat)(b:Code) ins outs {X Y:Type}(mW:xc outs→X)(c:Y→pP ins→Option X)(bf:Nat→Y→Y):Prop:=
 ∀k rec d,c (bf k rec) d=OR (1000+iA) ins d fun st=>kF E A k 1000 na nt b st (yYj 1000 ins outs mW (c rec))
abbrev Yx (X:Type):=Nat→X→(R:Type)→(Ex→St→Option R)→Option R
theorem vPz {E A na nt b ins outs X Y mW c bf}(hE:jH E)(hs:vJ0 E A na nt b ins outs mW c bf)(f:Nat→Nat→Y)(elim:Yx X)
  (hX:∀o R K,elim (1000+iA) (mW o) R K=D4 (1000+iA) outs o K) (hL:wS E.P A 1000 na nt b) (h0:∀k d,c (f k 0) d=none:=by intros;rfl) (h1:∀k n,f k (n+1)=bf k (f k n):=by intros;rfl):
  zT E.P 1000 na nt b ⟨ins,outs,X,fun k d=>c (f k k) d,elim⟩:=
 Xb hE.ok hE.loc hE.ord hL mW elim hX (fun k n d=>c (f k n) d) h0 (fun k n d=>by rw[h1];exact hs k (f k n) d)
def Yy (E:Env)(A:zV)(na:Nat)(fn:Func) as (rs:RS){X}(up:RL rs.cells→X)(S:Nat→AD as→Option X):Prop:=
 ∀k d,kG E A k 1000 na fn (qb as d).1 (qb as d).2 (nk rs up)=S k d
def vJe (E:Env)(A:zV)(na:Nat)(fn:Func) as (rs:RS)(os:List (List RC))(ns:Nat){X}(up:RL (rs.cells++os.flatten)→X)(S:Nat→XD as→Option X):Prop:=
 ∀k d,kG E A k 1000 na fn (kS as d).1 (kS as d).2 (Ky as rs os ns up)=S k d
def yQo (E:Env)(A:zV)(na:Nat)(fn:Func) as (rs:RS)(os:List (List RC))(ns:Nat)(dw:RS)(dy:List (List RC))(fz:Nat){X Y}(up:RL (rs.cells++os.flatten)→X)(lI:RL (dw.cells++dy.flatten)→Y)(S:Nat→XD as→Option (X⊕Y)):Prop:=
 ∀k d,kG E A k 1000 na fn (kS as d).1 (kS as d).2 (PI as rs os ns dw dy fz up lI)=S k d
theorem vUh {E A na f fn as rs X S pack}{unpack:RL rs.cells→X}(hE:jH E)(aW:Yy E A na fn as rs unpack S)(hL:wS E.P A 1000 na fn.ntmps (zS fn))
  (hf:E.P.funcs[f]? =some fn:=by kernel_rfl) (hb:fn.body.isNone=false:=by kernel_rfl) (hn:(fn.name== "runtime.NumGoroutine")=false:=by kernel_rfl) (fy:∀d,pack (unpack d)=d:=by intro d;rfl):
  zC E.P (f,fun k nm args h=>pc as rs (S k) pack nm args h):=
 ⟨fun k _ _ _ _ _ hy=>XG hE.ok hE.loc hE.ord hf (body_loops hL) (Ko hf hb hn) fy (aW k) hy,vAf⟩
theorem Yz {E A na f fn as rs os ns X}{S:Nat→XD as→Option X}{pack unpack}(hE:jH E)(aW:vJe E A na fn as rs os ns unpack S)
  (hL:wS E.P A 1000 na fn.ntmps (zS fn)) (hf:E.P.funcs[f]? =some fn:=by kernel_rfl) (hb:fn.body.isNone=false:=by kernel_rfl) (hn:(fn.name== "runtime.NumGoroutine")=false:=by kernel_rfl) (kT:uy as na=true:=by kernel_rfl) (nq:(!as.any AX.isChn||A.loops.isEmpty)=true:=by kernel_rfl) (fy:∀d,pack (unpack d)=d:=by intro d;rfl):
  zC E.P (f,fun k nm args h=>sQ as rs os ns (S k) pack nm args h):=
 ⟨fun k _ _ _ _ _ hy=>Yr hE.ok hE.loc hE.ord hf (body_loops hL) (Ko hf hb hn) fy kT nq (aW k) hy,yKx⟩
theorem vXu {E A na f fn as rs dw os dy ns fz X Y}{S:Nat→XD as→Option (X⊕Y)}{pk up iZ lI}(hE:jH E)
  (aW:yQo E A na fn as rs os ns dw dy fz up lI S)
  (hL:wS E.P A 1000 na fn.ntmps (zS fn)) (hf:E.P.funcs[f]? =some fn:=by kernel_rfl) (hb:fn.body.isNone=false:=by kernel_rfl) (hn:(fn.name== "runtime.NumGoroutine")=false:=by kernel_rfl) (kT:uy as na=true:=by kernel_rfl) (nq:(!as.any AX.isChn||A.loops.isEmpty)=true:=by kernel_rfl) (fy:∀d,pk (up d)=d:=by intro d;rfl) (og:∀d,iZ (lI d)=d:=by intro d;rfl):
  zC E.P (f,fun k nm args h=>uz as rs os ns dw dy fz (S k) pk iZ nm args h):=
 ⟨fun k _ _ _ _ _ hy=>Ys hE.ok hE.loc hE.ord hf (body_loops hL) (Ko hf hb hn) fy og kT nq (aW k) hy,Yw⟩
theorem YA {E A na f fn sh t rs X}{S:Nat→List t.den→Option X}{pack unpack}(hE:jH E)(cO:∀k,kG E A k 1000 na fn [.c .nsl] (mn []) (nk rs unpack)=S k [])
  (aW:∀k xs,kG E A k 1000 na fn [.c (.nfl sh t xs)] (mn []) (nk rs unpack)=S k xs) (hL:wS E.P A 1000 na fn.ntmps (zS fn)) (hf:E.P.funcs[f]? =some fn:=by kernel_rfl) (hb:fn.body.isNone=false:=by kernel_rfl) (hn:(fn.name== "runtime.NumGoroutine")=false:=by kernel_rfl) (fy:∀d,pack (unpack d)=d:=by intro d;rfl):
  zC E.P (f,fun k nm args h=>pc [.c (.dat sh t)] rs (fun d=>S k d.1) pack nm args h):=
 ⟨fun k _ _ _ _ _ hy=>XH hE.ok hE.loc hE.ord hf (body_loops hL) (Ko hf hb hn) fy (fun x hx=>(cO k).trans hx) (by grind) hy,vAf⟩
def BY (k:Nat)(a b c:Int):Option (Int×Int):=
 bif decide (c=0) then some (Int.ofNat ((a.toNat+b.toNat+0)%18446744073709551616),Int.ofNat ((a.toNat+b.toNat+0)/18446744073709551616)) else none
def PV:nZ:=fun k nm args h=>match args with
 |[.c (.int .u64 a),.c (.int .u64 b),.c (.int .u64 c)]=>.call (Int×Int) (BY k a b c) (fun r=>(.tup [(false,[.int .u64 r.1]),(false,[.int .u64 r.2])],[]))
 |_=>.stuck
theorem vWn {P} a b w:
  (add64Entry #[.int .u64 a,.int .u64 b,.int .u64 0]).run P w=.ok (.tuple #[.int .u64 (Int.ofNat ((a.toNat+b.toNat+0)%18446744073709551616)),.int .u64 (Int.ofNat ((a.toNat+b.toNat+0)/18446744073709551616))]) w:=rfl
theorem YB {P f fn}(hf:P.funcs[f]? =some fn:=by kernel_rfl) (qm:(fn.name== "runtime.NumGoroutine")=false:=by kernel_rfl) (hb:fn.body.isNone=true:=by kernel_rfl)
  (hn:Extern.findNext fn=none:=by kernel_rfl) (he:Extern.find fn=some add64Entry:=by kernel_rfl):
  zC P (f,PV):=by
 refine⟨fun k nm args h v u hy=>?_,fun _ _ _ _ _ _ _=>rfl⟩;intro M w vs hh hH ok hv;refine .inr ?_;replace hy:yQ (PV k nm args h) v u:=hy;unfold PV at hy;split at hy
 ·rename_i a b c;obtain⟨x,hx,rfl,rfl⟩:=hy
  match hl:vs.toList,hv with
  |[v1,v2,v3],hv=>
   obtain⟨h1,h2,h3,_⟩:=hv;cases h1;cases h2;cases h3;obtain rfl:vs=#[.int .u64 a,.int .u64 b,.int .u64 c]:=by grind
   obtain⟨hc,hx⟩:=wQ hx;cases hx;have hc:c=0:=by simp_all
   subst hc;refine⟨.tuple #[.int .u64 (Int.ofNat ((a.toNat+b.toNat+0)%18446744073709551616)),.int .u64 (Int.ofNat ((a.toNat+b.toNat+0)/18446744073709551616))],w,M,?_,⟨rfl,rfl,rfl,hH,rfl,ok,.refl M⟩,?_⟩
   ·rw[run_callFunc_extern hf qm hb hn he,vWn a b w];rfl
   ·exact⟨#[.int .u64 (Int.ofNat ((a.toNat+b.toNat+0)%18446744073709551616)),.int .u64 (Int.ofNat ((a.toNat+b.toNat+0)/18446744073709551616))],rfl,rfl,rfl,trivial⟩
 ·exact hy.elim
abbrev sP (d i:Nat):Nat×VS:=(d,.c (.lit (.ptr (1001000+i) 0)))
abbrev sO (d i:Nat):Nat×VS:=(d,.c (.lit (.osl (1001000+i) none)))
abbrev sI (d:Nat):Nat×VS:=(d,.c (.int .i64))
abbrev oB (l:List CS):OS:=.box true l
abbrev oA (t:Ty):OS:=.arr true t
abbrev sp (l:List (Nat×VS))(o:List OS):zE:=⟨l,o,[]⟩
def zH (f:Nat)(as:List AS)(rs:RS){X:Type}(s:Nat→AD as→Option X)(pk:X→RL rs.cells)(_:RL rs.cells→X):Nat×nZ:=(f,fun k nm args h=>pc as rs (s k) pk nm args h)
def yF (f:Nat)(as:List AX)(rs:RS)(os:List (List RC))(ns:Nat){X:Type}(s:Nat→XD as→Option X)(pk:X→RL (rs.cells++os.flatten))(_:RL (rs.cells++os.flatten)→X):Nat×nZ:=(f,fun k nm args h=>sQ as rs os ns (s k) pk nm args h)
def uG (f:Nat)(as:List AX)(rs:RS)(os:List (List RC))(ns:Nat)(dw:RS)(dy:List (List RC))(fz:Nat){X Y:Type}(s:Nat→XD as→Option (X⊕Y))(pk:X→RL (rs.cells++os.flatten))(iZ:Y→RL (dw.cells++dy.flatten))(_:RL (rs.cells++os.flatten)→X)(_:RL (dw.cells++dy.flatten)→Y):Nat×nZ:=(f,fun k nm args h=>uz as rs os ns dw dy fz (s k) pk iZ nm args h)
theorem fA {E:Env}(fn:Func)(A:zV){f:Nat}{as:List AS}{rs:RS}{X:Type}{s:Nat→AD as→Option X}{pk:X→RL rs.cells}{up:RL rs.cells→X}(hE:jH E)(hL:wS E.P A 1000 0 fn.ntmps (zS fn))
  (aW:Yy E A 0 fn as rs up s:=by intro k d;kernel_rfl)
  (hf:E.P.funcs[f]? =some fn:=by kernel_rfl) (hb:fn.body.isNone=false:=by kernel_rfl) (hn:(fn.name== "runtime.NumGoroutine")=false:=by kernel_rfl) (fy:∀d,pk (up d)=d:=by intro d;rfl):
  zC E.P (zH f as rs s pk up):=vUh hE aW hL hf hb hn fy
theorem fX {E:Env}(fn:Func)(A:zV)(na:Nat){f:Nat}{as:List AX}{rs:RS}{os:List (List RC)}{ns:Nat}{X:Type}{s:Nat→XD as→Option X}{pk:X→RL (rs.cells++os.flatten)}{up:RL (rs.cells++os.flatten)→X}(hE:jH E)(hL:wS E.P A 1000 na fn.ntmps (zS fn))
  (aW:vJe E A na fn as rs os ns up s:=by intro k d;kernel_rfl)
  (hf:E.P.funcs[f]? =some fn:=by kernel_rfl) (hb:fn.body.isNone=false:=by kernel_rfl) (hn:(fn.name== "runtime.NumGoroutine")=false:=by kernel_rfl) (kT:uy as na=true:=by kernel_rfl) (nq:(!as.any AX.isChn||A.loops.isEmpty)=true:=by kernel_rfl) (fy:∀d,pk (up d)=d:=by intro d;rfl):
  zC E.P (yF f as rs os ns s pk up):=Yz hE aW hL hf hb hn kT nq fy
theorem fN {E:Env}(fn:Func)(A:zV)(na:Nat){f:Nat}{as:List AX}{rs dw:RS}{os dy:List (List RC)}{ns fz:Nat}{X Y:Type}{s:Nat→XD as→Option (X⊕Y)}{pk:X→RL (rs.cells++os.flatten)}{up:RL (rs.cells++os.flatten)→X}{iZ:Y→RL (dw.cells++dy.flatten)}{lI:RL (dw.cells++dy.flatten)→Y}(hE:jH E)(hL:wS E.P A 1000 na fn.ntmps (zS fn))
  (aW:yQo E A na fn as rs os ns dw dy fz up lI s:=by intro k d;kernel_rfl)
  (hf:E.P.funcs[f]? =some fn:=by kernel_rfl) (hb:fn.body.isNone=false:=by kernel_rfl) (hn:(fn.name== "runtime.NumGoroutine")=false:=by kernel_rfl) (kT:uy as na=true:=by kernel_rfl) (nq:(!as.any AX.isChn||A.loops.isEmpty)=true:=by kernel_rfl) (fy:∀d,pk (up d)=d:=by intro d;rfl) (og:∀d,iZ (lI d)=d:=by intro d;rfl):
  zC E.P (uG f as rs os ns dw dy fz s pk iZ up lI):=vXu hE aW hL hf hb hn kT nq fy og
def xO (f:Nat)(sh:Bool)(t:Ty)(r:RC)(s:Nat→List t.den→Option r.den):Nat×nZ:=
 (f,fun k nm args h=>pc [.c (.dat sh t)] (.c r) (fun d=>s k d.1) (fun x=>(x,())) nm args h)
theorem fC {E:Env}(fn:Func)(A:zV){f:Nat}{sh:Bool}{t:Ty}{r:RC}{s:Nat→List t.den→Option r.den}(hE:jH E)(hL:wS E.P A 1000 0 fn.ntmps (zS fn))
  (cO:∀k,kG E A k 1000 0 fn [.c .nsl] (mn []) (nk (.c r) (fun d=>d.1))=s k []:=by intro k;kernel_rfl)
  (aW:∀k xs,kG E A k 1000 0 fn [.c (.nfl sh t xs)] (mn []) (nk (.c r) (fun d=>d.1))=s k xs:=by intro k xs;kernel_rfl)
  (hf:E.P.funcs[f]? =some fn:=by kernel_rfl) (hb:fn.body.isNone=false:=by kernel_rfl) (hn:(fn.name== "runtime.NumGoroutine")=false:=by kernel_rfl):zC E.P (xO f sh t r s):=
 YA (rs:=.c r) (pack:=fun x=>(x,())) (unpack:=fun d=>d.1) hE cO aW hL hf hb hn
def qY {T:Type}(z:T)(b:T→T):Nat→T
 |0=>z
 |n+1=>b (qY z b n)
theorem lp {E:Env}{A:zV}{na nt:Nat}{b:Code}(L:zU){Y:Type}(mW:xc L.outs→L.X)(c:Y→pP L.ins→Option L.X)(f:Nat→Nat→Y)(bf:Nat→Y→Y)(hE:jH E)(hL:wS E.P A 1000 na nt b)
  (hs:vJ0 E A na nt b L.ins L.outs mW c bf:=by intro k rec d;kernel_rfl)
  (hX:∀o R K,L.elim (1000+iA) (mW o) R K=D4 (1000+iA) L.outs o K:=by intro o R K;first|rfl|(rcases o with o|o<;>rfl)|(rcases o with o|o|o<;>rfl)|(rcases o with o|o|o|o<;>rfl)|(rcases o with o|o|o|o|o<;>rfl))
  (h0:∀k d,c (f k 0) d=none:=by intros;rfl) (h1:∀k n,f k (n+1)=bf k (f k n):=by intros;rfl) (hf:(⟨L.ins,L.outs,L.X,fun k d=>c (f k k) d,L.elim⟩:zU)=L:=by rfl):zT E.P 1000 na nt b L:=by
 rw[←hf];exact vPz hE hs f _ hX hL h0 h1
def ins {α:Type}(b:Nat)(xs:List α)(i:Int)(ys:List α):Option (List α):=
 bif decide (0≤i)&&decide (i≤(xs.length:Int))&&Nat.beq ys.length 1&&zL (xs.length+1) b then some (xs.take i.toNat++(ys++xs.drop i.toNat)) else none
end Go.Ab
