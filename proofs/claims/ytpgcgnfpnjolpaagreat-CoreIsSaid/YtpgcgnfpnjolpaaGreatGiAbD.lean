/- part 3 -/
import Derived.Test.YtpgcgnfpnjolpaaGreatGiAbC
import Derived.Laws.Externs
set_option linter.unusedVariables false
set_option linter.unusedSimpArgs false
set_option linter.unusedSectionVars false
namespace Go.Ab
theorem QQ:∀a b,qZ (a++b)=qZ a++qZ b
 |[],_=>rfl
 |(true,_)::a,b
 |(false,_)::a,b=>by simp[qZ,QQ a b]
theorem vr {h}:∀{ls is cs bs},wX h ls is=some (cs,bs)→∀id∈qZ bs,∃o,h id=some o∧o.owned=true
 |[],[],_,_,e=>by cases e;nofun
 |(io,l)::ls,i::is,cs,bs,e=>by
  unfold wX at e;split at e
  ·rename_i cells rest oq h1 h2;obtain⟨_,e⟩:=yL e;cases e;intro id ab;cases io with
   |false=>exact vr h2 id ab
   |true=>
    rcases List.mem_cons.1 ab with rfl|ab
    ·unfold rJ at h1;split at h1
     ·rename_i c hc;exact⟨_,hc,rfl⟩
     all_goals simp_all
    ·exact vr h2 id ab
  ·cases e
theorem yDu {h}{s:AX}{a cs bs}(e:s.get h a=some (cs,bs)):∀id∈qZ bs,∃o,h id=some o∧o.owned=true:=by
 unfold AX.get at e;split at e
 ·cases e;nofun
 ·obtain⟨_,e⟩:=yL e;cases e;nofun
 ·exact vr e
 ·obtain⟨_,e⟩:=yL e;exact vr e
 ·split at e
  ·exact vr e
  ·cases e
 ·cases e
theorem QR {h}:∀{l as cs bs},jI h l as=some (cs,bs)→l.length=as.length∧∀id∈qZ bs,∃o,h id=some o∧o.owned=true
 |[],[],_,_,e=>by cases e;exact⟨rfl,nofun⟩
 |s::l,a::as,cs,bs,e=>by
  unfold jI at e;split at e
  ·rename_i c1 b1 c2 b2 h1 h2;cases e;obtain⟨k1,k2⟩:=QR h2;refine⟨by simp[k1],fun id ab=>?_⟩;rw[QQ] at ab;rcases List.mem_append.1 ab with ab|ab
   ·exact yDu h1 id ab
   simp_all
  ·cases e
theorem QS {h}:∀{l cs d},gW h l cs=some d→∀id∈vB l cs,∃o,h id=some o∧o.owned=true
 |[],[],_,_=>nofun
 |x::l,c::cs,d,e=>by
  unfold gW at e;split at e
  ·rename_i y ys h1 h2;have ih:=QS h2;unfold vi at h1;split at h1
   ·exact ih
   ·intro jd ab;rcases List.mem_cons.1 ab with rfl|ab
    ·split at h1
     ·rename_i s xs hs;exact⟨_,hs,rfl⟩
     ·cases h1
    ·simp_all
   ·intro jd ab;rcases List.mem_cons.1 ab with rfl|ab
    ·split at h1
     ·rename_i s xs hs;exact⟨_,hs,rfl⟩
     ·cases h1
    ·exact ih jd ab
   ·intro jd ab;rcases List.mem_cons.1 ab with rfl|ab
    ·split at h1
     ·rename_i xs hs;exact⟨_,hs,rfl⟩
     ·cases h1
    simp_all
   ·exact ih
   ·cases h1
  ·cases e
theorem QT {a b}(h:Gl a b=true):∀id∈b,id∉a:=fun id hb ha=>by
 have h:=List.all_eq_true.1 h id ha;have:b.any (Nat.beq id)=true:=List.any_eq_true.2 ⟨id,hb,by simp⟩;simp_all
theorem QU:∀os cs,(l9 os cs).length=os.length
 |[],_=>rfl
 |_::os,cs=>by simp[l9,QU os]
theorem QV {M L}{P:zE→Nat→Prop}{R}:∀{ids js css Bs},zG (eH M L) ids js→gh R js css Bs→gh (fun id cs B=>∃jd,eH M L id jd∧R jd cs B) ids css Bs
 |[],[],[],[],_,_=>trivial
 |_::_,_::_,_::_,_::_,h,k=>⟨⟨_,h.1,k.1⟩,QV (P:=P) h.2 k.2⟩
theorem zE.gone_ok {M}(ok:Ok M){nm}(aC:M.h nm=none) C:
  Ok (M.add nm .gone C)∧qK M (M.add nm .gone C)∧(∀b,qC (M.add nm .gone C) b→qC M b):=by
 have x:qK M (M.add nm .gone C):=⟨fun id D h=>by
  have ba:id≠nm:=fun e=>by rw[e,ok.non nm aC] at h;cases h
  exact⟨D,by show κset M.κ nm _ id=_;rw[κset_ne _ _ ba];exact h,D.le_refl⟩,fun _ h=>h,fun _ h=>h,fun _ _=>rfl,fun _ _=>rfl,fun _ _=>rfl⟩
 have at':∀o,(M.add nm .gone C).h nm=some o→o=.gone:=fun o h=>by
  have e1:(M.add nm .gone C).h nm=some .gone:=qM _ _ _;simp_all
 refine⟨Ok.build ok x (fun id=>id=nm) (fun id h=>qN _ _ h) (fun id h=>κset_ne _ _ h) (fun _ _ _ _ _ _ _ _ _=>rfl) (fun id o' D h1 h2 h3 h4 b bn=>(ok.own b ⟨id,o',D,h2,h3,h4,bn⟩).1) (Nat.le_refl _)
  (fun id o' e h=>?_) (fun id e h=>?_) (fun id o' D b e h1 h2 h3 h4=>?_) ok.GF ok.Flt,x,fun b bn=>?_⟩
 ·subst e;rw[at' o' h];exact⟨_,κset_same _ _ _,trivial⟩
 ·have e1:(M.add id .gone C).h id=some .gone:=qM _ _ _;simp_all
 ·subst e;rw[at' o' h1] at h2;cases h2
 ·obtain⟨id,o',D,h1,h2,h3,h4⟩:=bn;by_cases e:id=nm
  ·subst e;rw[at' o' h1] at h2;cases h2
  ·exact⟨id,o',D,by rw[←h1];exact(qN _ _ e).symm,h2,by rw[←h3];exact(κset_ne _ _ e).symm,h4⟩
theorem QW:∀{n nm Bs M},Ok M→(∀i,i<n→M.h (nm+i)=none)→Bs.length=n→
  ∃M':zE,M'.H=M.H∧M'.G=M.G∧M'.F=M.F∧M'.h=zX M.h (gY (eF nm n))∧Ok M'∧qK M M'∧(∀b,qC M' b→qC M b)∧zG (fun id B=>∃C,M'.κ id=some C∧C.blk=some B) (eF nm n) Bs
 |0,nm,[],M,ok,_,_=>⟨M,rfl,rfl,rfl,rfl,ok,.refl M,by simp,trivial⟩
 |n+1,nm,B::Bs,M,ok,hf,hl=>by
  obtain⟨k1,k2,k3⟩:=zE.gone_ok ok (hf 0 (by omega)) ⟨some B,0,0,0,[]⟩;obtain ⟨M', a1, a2, a3, a4, a5, a6, a7, a8⟩ := QW (n := n) (nm := nm + 1) (Bs := Bs) k1 (fun i hi=>by
   have:=hf (i+1) (by omega);rw[show nm+1+i=nm+(i+1) by omega,←this];exact qN _ _ (by omega)) (by simp_all)
  refine⟨M',a1,a2,a3,a4,a5,qK.trans (M:=M) (M':=M.add nm .gone ⟨some B,0,0,0,[]⟩) (Nat.le_refl _) k2 a6,by grind,?_,a8⟩;obtain⟨C,h1,h2⟩:=a6.κ nm _ (κset_same _ _ _);exact⟨C,h1,h2.blk⟩
theorem Gu {L M ids js}(hs:zG (eH M L) ids js):∀{l cs ds vs},jb l js cs=true→zG (zM L) cs vs→zG (zM M) ds vs→zG (zM M) (om l ids ds) vs
 |[],cs,ds,vs,_,_,hd=>by exact hd
 |none::l,[],[],[],_,_,_=>trivial
 |none::l,c::cs,d::ds,v::vs,h,hc,hd=>⟨hd.1,Gu hs (l:=l) h hc.2 hd.2⟩
 |some j::l,c::cs,d::ds,v::vs,h,hc,hd=>by
  obtain⟨id,rfl,ab,h'⟩:=QA h;refine⟨?_,Gu hs h' hc.2 hd.2⟩;have hj:=(List.getElem?_eq_some_iff.1 ab).1;have hi:j<ids.length:=by rw[hs.length];exact hj
  have:=hs.get j hi hj;rw[(List.getElem?_eq_some_iff.1 ab).2] at this;obtain⟨C,D,B,q1,q2,q3,q4⟩:=this;obtain⟨D',B',p1,p2,p3⟩:=hc.1;rw[q3] at p1;cases p1;rw[q4] at p2;cases p2;rw[List.getElem?_eq_getElem hi];exact⟨C,B,q1,q2,p3⟩
 |_,[],_::_,[],_,_,hd=>hd.elim
 |_,_::_,[],[],_,hc,_=>hc.elim
theorem yQp {h ns cs nw}(e:Gk h ns cs=some nw):nw.length=ns:=by
 unfold Gk at e;cases h0:Nat.beq ns 0 with
 |true=>simp_all
 |false=>
  rw[h0] at e;split at e
  ·exact(Gp e).2
  ·cases e
def Gv (w:World)(na:Nat)(chn:Bool)(M:zE)(vs:Array Value)(rv:Value)(w':World)(v:zO)(st:St):Prop:=
 ∃M':zE,M'.h=st.h∧M'.H=w'.heap∧Ok M'∧jB M M'∧(chn=true→Ap M M')∧zK M' v rv∧w'.os=w.os∧w'.tape=w.tape∧w'.output=w.output∧(∀t,t<na→zK M' (st.t t) (vs.getD t undef))
theorem QX {n}:∀{l nm d hh},(∀j,j<l.length→n≠nm+j)→zX hh (ga nm l d).2 n=hh n
 |[],_,_,_,_=>rfl
 |r::l,nm,d,hh,h=>by
  show zX hh ((iW nm r d.1).2++(ga (nm+1) l d.2).2) n=_;rw[jZ,QX fun j hj=>by have:=h (j+1) (by simp_all);omega,Qa (by have:=h 0 (by simp);omega)]
theorem yA4 {M}(ok:Ok M){io id cells}(h:rJ M.h io id=some cells):∃C B,M.κ id=some C∧C.blk=some B:=by
 have h':rA M.h id=some cells:=by
  unfold rJ at h;unfold rA;grind
 obtain⟨C,h1,B,_,_,h2,_⟩:=P6 ok h';simp_all
theorem AQ {M}(ok:Ok M):∀{ls is cs bs},wX M.h ls is=some (cs,bs)→∀q∈bs,∃C B,M.κ q.2=some C∧C.blk=some B
 |[],[],_,_,e=>by cases e;simp
 |(io,l)::ls,i::is,cs,bs,e=>by
  unfold wX at e;split at e
  ·rename_i cells rest oq h1 h2;obtain⟨_,e⟩:=yL e;cases e;intro q hq;rcases List.mem_cons.1 hq with rfl|hq
   ·exact yA4 ok h1
   ·exact AQ ok h2 q hq
  ·cases e
theorem QY {M}(ok:Ok M):∀{l as cs bs},jI M.h l as=some (cs,bs)→∀q∈bs,∃C B,M.κ q.2=some C∧C.blk=some B
 |[],[],_,_,e=>by cases e;simp
 |s::l,a::as,cs,bs,e=>by
  unfold jI at e;split at e
  ·rename_i c1 b1 c2 b2 h1 h2;cases e;intro q hq;rcases List.mem_append.1 hq with hq|hq
   ·unfold AX.get at h1;split at h1
    ·simp_all
    ·grind
    ·exact AQ ok h1 q hq
    ·obtain⟨_,h1⟩:=yL h1;exact AQ ok h1 q hq
    ·split at h1
     ·exact AQ ok h1 q hq
     ·cases h1
    ·cases h1
   ·exact QY ok h2 q hq
  ·cases e
theorem QZ {L}(ok:Ok L):∀{os ids bs},rK L.h os ids=some bs→∀j∈ids,∃cells C B,L.h j=some (.box true cells)∧L.κ j=some C∧C.blk=some B
 |[],[],_,_=>by simp
 |o::os,n::ns,bs,h=>by
  unfold rK at h;split at h
  ·rename_i cells rest h1 h2;intro j hj;rcases List.mem_cons.1 hj with rfl|hj
   ·obtain⟨C,hC,B,vals,e,q1,_⟩:=ok.obj _ _ h1;simp_all
   ·exact QZ ok h2 j hj
  ·cases h
theorem Q0 {L}(ok:Ok L):∀{js:List Nat},js.Nodup→(∀j∈js,∃cells C B,L.h j=some (.box true cells)∧L.κ j=some C∧C.blk=some B)→(js.map fun id=>((L.κ id).bind zS.blk).getD 0).Nodup
 |[],_,_=>by simp
 |a::js,hn,aL=>by
  obtain⟨n1,n2⟩:=List.nodup_cons.1 hn;refine List.nodup_cons.2 ⟨fun AR=>?_,Q0 ok n2 (by grind)⟩;obtain⟨j,hj,oC⟩:=List.mem_map.1 AR;obtain⟨Q1,C,B,q1,q2,q3⟩:=aL a (by simp);obtain⟨c2',D,B',q4,q5,q6⟩:=aL j (by grind);have oC:((L.κ j).bind zS.blk).getD 0=((L.κ a).bind zS.blk).getD 0:=oC;rw[q2,q5] at oC;have oC:(D.blk.getD 0)=(C.blk.getD 0):=oC;rw[q3,q6] at oC;subst oC;exact ok.disj a j _ _ C D B' (by grind) q1 q4 rfl rfl q2 q5 (by simp[zS.fp,q3]) (by simp[zS.fp,q6])
theorem yTi {na as}(kQ:vh as na=true){nm n args h u0 io rows d}(he:rN as nm n args h=some (u0,io,rows,d)) M w vs (hh:M.h=h)(hH:M.H=w.heap)(ok:Ok M)(hv:zG (zK M) args vs.toList):
  ∃Ml:zE,Ml.h=(gX as d).2∧Ml.H=w.heap∧Ok Ml∧zG (zK Ml) (gX as d).1 vs.toList∧
   ∀rv w' v0 st,Gv w na (as.any AX.isChn) Ml vs rv w' v0 st→∀rs os ns dx,rL st as rs os ns v0=some dx→(rs.cells++os.flatten).length+ns≤n→
    ∃Mf,kB M w (Gm u0 io rows rs os ns nm dx).2 Mf w'∧zK Mf (Gm u0 io rows rs os ns nm dx).1 rv:=by
 unfold rN at he;split at he
 ·cases he
 rename_i cC u oe;split at he
 ·cases he
 rename_i cs bs bS;split at he
 ·cases he
 rename_i d' hd;dsimp only at he;obtain⟨hc,he⟩:=fZ he;cases he;simp only[Bool.and_eq_true] at hc;obtain⟨⟨⟨⟨⟨⟨Gw,FA⟩,AT⟩,Gx⟩,Gy⟩,Gz⟩,GA⟩:=hc;subst hh;obtain⟨M1,a1,a2,a3,a4,a5,a6⟩:=QJ ok (yX.refl _) hv oe;rw[←a2] at hd bS;obtain⟨Q2,ez⟩:=QR bS;have aO:=QS hd;have cw:fH M1 (qZ bs++vB (as.flatMap AX.cells) cs):=fun id ab=>(List.mem_append.1 ab).elim (ez id) (aO id)
 have GB:=re Gx;obtain⟨Ml,lo,b2,b3,b4,b5,b6⟩:=yF8 a3 a5 bS hd GB (QT Gy) (QT Gz) (Nat.le_of_ble_eq_true AT) GA cw;generalize cX:qZ bs++vB (as.flatMap AX.cells) cs=ah at*
 refine⟨Ml,b2,by rw[lo.H,a1];exact hH,b3,b5,fun rv w' v0 st ⟨L0,c1,c2,c3,c4,ck,c5,c6,c7,c8,c9⟩ rs os ns dx hK hn=>?_⟩;unfold rL at hK;split at hK
 ·cases hK
 rename_i GC ew;split at hK
 ·cases hK
 rename_i ccs kJ;split at hK
 ·cases hK
 rename_i nw hnw;split at hK
 ·cases hK
 rename_i bcs kR;obtain⟨vt,AU⟩:=fZ hK;clear hK;split at AU
 case h_2=>cases AU
 rename_i ay u1 uZ;obtain⟨cc,hK⟩:=fZ AU;clear AU;rw[Bool.and_eq_true] at cc;obtain⟨cc,vu⟩:=cc;have GD:=yQp hnw;obtain⟨hlen,us,d1,d2⟩:=Qc kJ c5;rw[←c1] at uZ hK kR;obtain⟨js,lI⟩:∃js,js=GC++nw:=⟨_,rfl⟩;rw[←lI] at kR vt vu;obtain⟨k1,k2,AV,k3,k4⟩:=QO c3 kR;obtain⟨L,e1,e2,e3,e4,e5,e6⟩:=lV c3 (yX.refl _) (d1.append k3) uZ;rw[←e2] at hK;have g:jB Ml L:=c4.trans e4.grow;obtain⟨f1,f2,f3⟩:=zE.overX_ok a3 e3 lo cw b4 g;have bN : zG (eH M1 L0) (qZ bs) GC := QN bS ew a5 (fun i hi s hs AO=>by
  have bU:i<vs.size:=by simpa using hi
  have aS:i<na:=by
   have:=List.all_eq_true.1 kQ (s,i) (List.mk_mem_zipIdx_iff_getElem?.2 hs);simp only[AO,Bool.not_true,Bool.false_or] at this;exact Ey this
  have:=c9 i aS;rw[Nat.zero_add];have e:vs.getD i undef=vs.toList[i]:=by simp[bU]
  rw[←e];exact this) fun me i q hq=>by
   obtain⟨C,B,p1,p2⟩:=QY a3 bS q (List.mem_of_getElem? hq);have hi:i<bs.length:=(List.getElem?_eq_some_iff.1 hq).1;have hκ:Ml.κ i=some C:=by
    rw[b6];unfold κX;have:Nat.ble yQ i=false:=by
     cases h:Nat.ble yQ i with
     |false=>rfl
     |true=>have h1:=Nat.le_of_ble_eq_true h;have h2:=Nat.le_of_ble_eq_true AT;omega
    rw[this,hq];exact p1
   obtain⟨C',p3,p4⟩:=ck me i C hκ;rw[Nat.zero_add];exact⟨C,C',B,p1,p2,p3,p4.trans p2⟩
 have gZ:∀i,i<n→(M1.overX L ah).h (nm+i)=none:=fun i hi=>by
  have h1:=F0 Gw i hi;have h2:M1.h (nm+i)=none:=by
   rw[a2];rcases a6 (nm+i) with h|⟨own,t,xs,h,_⟩|⟨ver,xs,h,_⟩
   ·rw[a2] at h;rw[h];exact h1
   ·rw[h1] at h;cases h
   ·rw[h1] at h;cases h
  show zX M1.h (gY ah) (nm+i)=none;rw[mc,if_neg,h2];intro AR;obtain⟨o,ho,_⟩:=cw _ AR;rw[h2] at ho;cases ho
 have gU:∀i,i<(rs.cells++os.flatten).length→(M1.overX L ah).h (nm+i)=none:=fun i hi=>gZ i (by omega)
 have kS:∀b,qC L b→b<M1.H.size→jY M1 ah b:=fun b hb aS=>b4 b (g.own b hb (by rw[lo.H];exact aS))
 have mf:∀b,qC L b→¬(M1.overX L ah).F b:=fun b hb h=>by
  rcases h with h|h
  ·exact(kO a3 cw h).2 (kS b hb (a3.Flt b h))
  ·exact(e3.own b hb).1 (e3.GF b h)
 have mg:∀b,qC L b→¬qC (M1.overX L ah) b:=fun b hb h=>by
  obtain⟨q1,q2⟩:=f3 b h;exact q2 (kS b hb (a3.own b q1).2)
 obtain ⟨Mc, g1, g2, g3, g4, g5, g6, g7, g8⟩ := F1 e3 f1 ⟨rfl, rfl⟩ gU hK (re cc) (lX hK) (fun id ab C hC b hb=>by
  obtain⟨o,ho,de⟩:=lX hK id ab;have au:qC L b:=⟨id,o,C,ho,de,hC,hb⟩;exact⟨mg b au,mf b au,(e3.own b au).2⟩)
 obtain ⟨Mg, n1, n2, n3, n4, n5, n6, n7, n8⟩ := QW (n := ns) (nm := nm + (rs.cells ++ os.flatten).length) (Bs := nw.map fun id => ((L0.κ id).bind zS.blk).getD 0) g5 (fun i hi=>by
  rw[g4,QX (fun j hj=>by omega),Nat.add_assoc];exact gZ _ (by omega)) (by simp[GD])
 have g9:∀j∈js,∃cells C B,L0.h j=some (.box true cells)∧L0.κ j=some C∧C.blk=some B:=QZ c3 kR;have AW:qK M1 Mg:=(f2.ext.trans f2.size g6).trans (by rw[g1];exact f2.size) n6;have Ah:zG (eH Mg L0) (qZ bs) GC:=bN.mono fun id jd hq=>by
  obtain⟨C,D,B,q1,q2,q3,q4⟩:=hq;obtain⟨C',p3,le⟩:=AW.κ id C q1;exact⟨C',D,B,p3,le.blk.trans q2,q3,q4⟩
 have Q3:zG (eH Mg L0) (eF (nm+(rs.cells++os.flatten).length) ns) nw:=by
  have Q4:=n8.length;rw[List.length_map] at Q4;refine zG.of_get Q4 fun i h1 h2=>?_
  obtain⟨C,q1,q2⟩:=n8.get i h1 (by simpa using h2);obtain⟨cells,D,B,p1,p2,p3⟩:=g9 nw[i] (by rw[lI];exact List.mem_append_right _ (List.getElem_mem _));refine⟨C,D,B,q1,?_,p2,p3⟩;rw[q2,List.getElem_map,p2];show some (D.blk.getD 0)=_;rw[p3];rfl
 have eI:zG (eH Mg L0) (qZ bs++eF (nm+(rs.cells++os.flatten).length) ns) js:=by
  rw[lI];exact Ah.append Q3
 have kT:zG (eH Mg L) (qZ bs++eF (nm+(rs.cells++os.flatten).length) ns) js:=eI.mono fun id jd hq=>by
  obtain⟨C,D,B,q1,q2,q3,q4⟩:=hq;obtain⟨D',p3,le⟩:=e4.ext.κ jd D q3;exact⟨C,D',B,q1,q2,p3,le.blk.trans q4⟩
 have oD:=Gu kT vu e5 ((g8 _ e5).mono fun _ _ h=>h.ext n6);obtain⟨G,hG⟩:∃G,G=om ((rs.cells++os.flatten).map RC.lnk) (qZ bs++eF (nm+(rs.cells++os.flatten).length) ns) (ga nm (rs.cells++os.flatten) dx).1:=⟨_,rfl⟩;rw[←hG] at oD;have qs:us.length=rs.cells.length:=by rw[←d1.length,hlen]
 have hgr:zG (zM Mg) (G.take rs.cells.length) us:=by
  have:=zG.take rs.cells.length oD
  rwa [show(us++AV).take rs.cells.length=us from by rw[←qs,List.take_left]] at this
 have hgb:zG (zM Mg) (G.drop rs.cells.length) AV:=by
  have:=zG.drop rs.cells.length oD
  rwa [show(us++AV).drop rs.cells.length=AV from by rw[←qs,List.drop_left]] at this
 have hHc:Mg.H=L0.H:=by rw[n1,g1];exact e1
 have vv:=QV (P:=fun _ _=>True) eI (k4 hHc hgb);have mh:∀jd B,(∃cells,L0.h jd=some (.box true cells))→(∃C,L0.κ jd=some C∧C.blk=some B)→∃cells C,L.h jd=some (.box true cells)∧L.κ jd=some C∧B∈C.fp:=fun jd B ⟨cells,q1⟩ ⟨C,q2,q3⟩=>by
  obtain⟨C',q4,le⟩:=e4.ext.κ jd C q2;refine⟨cells,C',?_,q4,?_⟩
  ·rcases e6 jd with h|⟨own,t,xs,h,_⟩|⟨ver,xs,h,_⟩
   ·rw[h,q1]
   ·rw[q1] at h;cases h
   ·rw[q1] at h;cases h
  ·have:C'.blk=some B:=le.blk.trans q3;simp[zS.fp,this]
 have vw:∀b,b∈(js.map fun id=>((L0.κ id).bind zS.blk).getD 0)→qC L b:=fun b hb=>by
  obtain⟨j,hj,rfl⟩:=List.mem_map.1 hb;obtain⟨cells,C,B,q1,q2,q3⟩:=g9 j hj;obtain⟨aZ,D,p4,p5,p6⟩:=mh j B ⟨cells,q1⟩ ⟨C,q2,q3⟩;have e:((L0.κ j).bind zS.blk).getD 0=B:=by rw[q2];show C.blk.getD 0=B;rw[q3];rfl
  rw[e];exact⟨j,_,D,p4,rfl,p5,p6⟩
 have oE : gh (QG Mg) (qZ bs ++ eF (nm + (rs.cells ++ os.flatten).length) ns) (l9 os (G.drop rs.cells.length)) (js.map fun id => ((L0.κ id).bind zS.blk).getD 0) := gh.mono (fun id css B _ ⟨jd,q1,q2,⟨D0,q3,Q5,_⟩,q4⟩=>by
  obtain⟨C,D1,B',p1,p2,p3,Q6⟩:=q1;rw[q3] at p3;cases p3;rw[Q5] at Q6;cases Q6;obtain⟨cells,D,p4,p5,p6⟩:=mh jd B q2 ⟨_,q3,Q5⟩;have au:qC L B:=⟨jd,_,D,p4,rfl,p5,p6⟩;refine⟨⟨C,p1,p2⟩,q4,fun ho=>?_,?_⟩
  ·rcases g7 B (n7 B ho) with h|⟨kd,Q7,D',p7,p8⟩
   ·exact mg B au h
   ·obtain⟨o,p9,oz⟩:=lX hK kd Q7;refine e3.disj jd kd _ o D D' B (fun e=>?_) p4 p9 rfl oz p5 p7 p6 p8;exact QP hK kd Q7 true cells (by rw[←e];exact p4)
  ·rw[n3,g3];exact mf B au) vv
 have hBs:(js.map fun id=>((L0.κ id).bind zS.blk).getD 0).Nodup:=Q0 c3 (re vt) g9;obtain⟨Mf,r1,r2,r3,r4,r5,r6,r7⟩:=QH n5 oE hBs;have F7:qU M1 Mf:=by
  have au:∀b,qC Mf b→b<M1.H.size→qC M1 b:=fun b hb aS=>by
   rcases r7 b hb with hb|hb
   ·rcases g7 b (n7 b hb) with h|⟨id,ab,C,hC,rD⟩
    ·exact(f3 b h).1
    ·obtain⟨o,ho,de⟩:=lX hK id ab;exact(kS b ⟨id,o,C,ho,de,hC,rD⟩ aS).own cw
   ·exact(kS b (vw b hb) aS).own cw
  have AB:Mf.H=(M1.overX L ah).H:=r1.trans (n1.trans g1);refine⟨AW.trans ?_ r6,?_,fun b hb hn=>?_,au,fun b hb aS=>?_,fun b hb aS=>?_⟩
  ·rw[n1,g1];exact f2.size
  ·rw[AB];exact f2.size
  ·rw[AB];exact f2.frame b hb hn
  ·rw[r2,n2,g2] at hb;exact f2.Gb b hb aS
  ·rw[r3,n3,g3] at hb;exact f2.Fb b hb aS
 have vx:(qZ bs++eF (nm+(rs.cells++os.flatten).length) ns).length=(l9 os (G.drop rs.cells.length)).length:=by
  rw[QU,eI.length,k2]
 refine⟨Mf,⟨c6,c7,c8,?_,?_,r5,a4.trans F7⟩,?_⟩
 ·rw[r1,n1,g1];show L.H=_;rw[e1,c2]
 ·rw[r4,n4,g4];show _=zX M.h (u0++(gY (vB (as.flatMap AX.cells) cs)++((ga nm (rs.cells++os.flatten) dx).2++rM (qZ bs++eF (nm+(rs.cells++os.flatten).length) ns) (l9 os ((om ((rs.cells++os.flatten).map RC.lnk) (qZ bs++eF (nm+(rs.cells++os.flatten).length) ns) (ga nm (rs.cells++os.flatten) dx).1).drop rs.cells.length)))));rw[←hG,jZ,jZ,jZ,←a2];refine QI vx fun m hm=>?_
  rw[List.mem_append,not_or] at hm;rw[mc,if_neg hm.2];refine nU ?_;show zX M1.h (gY ah) m=_;rw[mc,mc,←cX];simp[hm.1]
 ·show zK Mf (rs.mk ((om ((rs.cells++os.flatten).map RC.lnk) (qZ bs++eF (nm+(rs.cells++os.flatten).length) ns) (ga nm (rs.cells++os.flatten) dx).1).take rs.cells.length)) rv;rw[←hG];exact d2 Mf _ (hgr.mono fun _ _ h=>h.ext r6)
theorem Q8 {P na f}(cj:∀vs w,(callFunc f vs).run P w=.ok (.enter f vs) w)
  {as rs os ns X} {S:XD as→Option X} {pack unpack} (dH:∀d,pack (unpack d)=d) (kQ:vh as na=true)
  (oF:∀d x,S d=some x→∀M w vs,M.h=(gX as d).2→M.H=w.heap→Ok M→zG (zK M) (gX as d).1 vs.toList→Calls P f vs w fun
   |.returned rv,w'=>∃(v:zO) (st:St),vn as rs os ns unpack v st=some x∧Gv w na (as.any AX.isChn) M vs rv w' v st
   |_,_=>False)
  {nm args h v u} (hy:qJ (je as rs os ns S pack nm args h) v u):nR P f args h v u:=by
 intro M w vs hh hH ok hv;refine .inl ⟨cj vs w,?_⟩;unfold je at hy;split at hy
 ·exact hy.elim
 rename_i u0 io rows d he;obtain⟨x,hx,rfl,rfl⟩:=hy;obtain⟨Ml,b1,b2,b3,b4,b5⟩:=yTi kQ he M w vs hh hH ok hv;refine Calls.mono (oF d x hx Ml w vs b1 b2 b3 b4) fun e w' hl=>?_
 cases e with
 |panicked _=>omega
 |outgrown=>omega
 |returned rv=>
  obtain⟨v0,st,hK,hl⟩:=hl;have hK:rL st as rs os ns v0=some (pack x):=by
   unfold vn at hK;grind
  grind
theorem yA6 {E}(hE:wC E)(hS:jQ E.sums)(hm:E.P.follows .mixedOrders=true){A k pre na f fn}(hf:E.P.funcs[f]? =some fn)(hL:∀c,fn.body=some c→yS E.P A pre na fn.ntmps c){chn}(me:(!chn||A.loops.isEmpty)=true)
  {R K} {x:R} {args h} (aF:dV E A k pre na fn args h K=some x) {M w vs} (h1:M.h=h) (h2:M.H=w.heap) (h3:Ok M) (h4:zG (zK M) args vs.toList):
  Calls E.P f vs w fun
   |.returned rv,w'=>∃(v:zO) (st:St),K v st=some x∧Gv w na chn M vs rv w' v st
   |_,_=>False:=by
 refine Calls.mono (FQ hE hS hm hf hL aF h1 h2 h3 h4) fun e w' hl=>?_
 cases e with
 |panicked _=>omega
 |outgrown=>omega
 |returned rv=>
  obtain⟨M',v,st,a1,a2,a3,a4,a5,a6,a7,a8,a9,a10,a11⟩:=hl;refine⟨v,st,a1,M',a2,a3,a4,a5,fun hc=>a6 ?_,a7,a8,a9,a10,a11⟩;simp_all
theorem yF7 {E}(hE:wC E)(hS:jQ E.sums)(hm:E.P.follows .mixedOrders=true){A k pre na f fn}(hf:E.P.funcs[f]? =some fn)(hL:∀c,fn.body=some c→yS E.P A pre na fn.ntmps c)(cj:∀vs w,(callFunc f vs).run E.P w=.ok (.enter f vs) w)
  {as rs os ns X} {S:XD as→Option X} {pack unpack} (dH:∀d,pack (unpack d)=d) (kQ:vh as na=true) (me:(!as.any AX.isChn||A.loops.isEmpty)=true)
  (aF:∀d,dV E A k pre na fn (gX as d).1 (gX as d).2 (vn as rs os ns unpack)=S d)
  {nm args h v u} (hy:qJ (je as rs os ns S pack nm args h) v u):nR E.P f args h v u:=
 Q8 cj dH kQ (fun d x hx M w vs h1 h2 h3 h4=>yA6 hE hS hm hf hL me ((aF d).trans hx) h1 h2 h3 h4) hy
section
variable {h h':Hp}
theorem yD2 {x c}(hh:∀id∈qX c,h id=h' id):vi h x c=vi h' x c:=by
 unfold vi;split
 ·exact Qj hh
 ·rename_i id;rw[hh id (by simp[qX])]
 ·rename_i id;rw[hh id (by simp[qX])]
 ·rename_i id;rw[hh id (by simp[qX])]
 ·rfl
 ·rfl
theorem Q9:∀{l cs},(∀id∈cs.flatMap qX,h id=h' id)→gW h l cs=gW h' l cs
 |[],[],_
 |[],_::_,_
 |_::_,[],_=>rfl
 |p::l,c::cs,hh=>by
  simp  at hh;unfold gW;rw[yD2 fun id hi=>hh id (.inl hi),Q9 (by grind)]
theorem yBa {ls}:wX h ls []=wX h' ls []:=by
 cases ls<;>rfl
theorem yDh {s:AX}{a}(hb:yO a=false):s.get h a=s.get h' a:=by
 unfold AX.get;cases s with
 |c p=>grind
 |agg l=>grind
 |ptr io l=>
  cases a with
  |c x=>cases x<;>first|rfl|(exact absurd hb (by simp[yO]))
  |_=>rfl
 |fn f aT=>
  cases a with
  |c x=>cases x with
   |fn g ids=>
    cases ids with
    |nil=>dsimp only;rw[yBa]
    |cons _ _=>exact absurd hb (by nofun)
   |_=>rfl
  |_=>rfl
 |chn ls=>
  cases a with
  |c x=>cases x<;>first|rfl|(exact absurd hb (by nofun))
  |_=>rfl
theorem yGi {s:AX}{a cs bs}(hb:yO a=false)(e:s.get h a=some (cs,bs)):∀id∈cs.flatMap qX,id∈qL a:=by
 unfold AX.get at e;split at e
 ·cases e;intro id ab;simp  at ab;exact ab
 ·obtain⟨_,e⟩:=yL e;cases e;exact fun id ab=>ab
 ·exact absurd hb (by nofun)
 ·rename_i f aT g ids;obtain⟨_,e⟩:=yL e;cases ids with
  |nil=>cases aT with
   |nil=>cases e;simp
   |cons _ _=>cases e
  |cons _ _=>exact absurd hb (by nofun)
 ·exact absurd hb (by nofun)
 ·cases e
theorem Ra:∀{l as},as.any yO=false→jI h l as=jI h' l as
 |[],[],_
 |[],_::_,_
 |_::_,[],_=>rfl
 |s::l,a::as,hb=>by
  simp only[List.any_cons,Bool.or_eq_false_iff] at hb;unfold jI;rw[yDh (h:=h) (h':=h') hb.1,Ra hb.2]
theorem Rb:∀{l as cs bs},as.any yO=false→jI h l as=some (cs,bs)→∀id∈cs.flatMap qX,id∈as.flatMap qL
 |[],[],cs,bs,_,e=>by cases e;simp
 |s::l,a::as,cs,bs,hb,e=>by
  simp only[List.any_cons,Bool.or_eq_false_iff] at hb;unfold jI at e;split at e
  ·rename_i c1 b1 c2 b2 e1 e2;cases e;intro id ab;rw[List.flatMap_append,List.mem_append] at ab;rw[List.flatMap_cons,List.mem_append];rcases ab with ab|ab
   ·exact .inl (yGi hb.1 e1 id ab)
   ·exact .inr (Rb hb.2 e2 id ab)
  ·cases e
theorem yGv {s a}(hh:∀id∈qL a,h id=h' id):ma h s a=ma h' s a:=by
 unfold ma;split
 ·rename_i p x;have:=rF (h:=h) (h':=h') (l:=[p.isKept]) (cs:=[x]) (by rw[rE];exact hh);simp_all
 ·rename_i l xs;have:=rF (h:=h) (h':=h') (l:=l.map PC.isKept) (cs:=xs) hh;simp_all
 ·rfl
theorem yEj {s a a' u}(e:ma h s a=some (a',u)):(∀id∈qL a',id∈qL a)∧(yO a=false→yO a'=false):=by
 unfold ma at e;split at e
 ·rename_i p x;split at e
  ·rename_i y u1 e1;cases e;refine⟨fun id ab=>by have:=rG e1 id (by rw[rE];omega);rwa [rE] at this,fun hb=>?_⟩;cases hk:p.isKept with
   |false=>rw[hk] at e1;cases e1;exact hb
   |true=>
    rw[hk] at e1;unfold vV at e1;split at e1
    ·rename_i c1 u2 eX iK e2 e3;cases e1;cases hy:yO (.c y) with
     |false=>rfl
     |true=>rw[(F8 e2).2 hy] at hb;cases hb
    ·cases e1
  ·cases e
 ·split at e
  ·rename_i ys u1 e1;cases e;exact⟨rG e1,fun _=>rfl⟩
  ·cases e
 simp_all
theorem Rc:∀{l as},(∀id∈as.flatMap qL,h id=h' id)→jc h l as=jc h' l as
 |[],as,_=>by rfl
 |_::_,[],_=>rfl
 |s::l,a::as,hh=>by
  simp  at hh;unfold jc;rw[yGv fun id hi=>hh id (.inl hi),Rc (by grind)]
theorem Re:∀{l as cE u},jc h l as=some (cE,u)→(∀id∈cE.flatMap qL,id∈as.flatMap qL)∧(as.any yO=false→cE.any yO=false)
 |[],as,cE,u,e=>by cases as<;>cases e<;>exact by simp
 |s::l,[],cE,u,e=>by cases e;simp
 |s::l,a::as,cE,u,e=>by
  unfold jc at e;split at e
  ·rename_i a1 u1 F5 iK e1 e2;obtain⟨k1,k2⟩:=yEj e1;obtain⟨k3,k4⟩:=Re e2;grind
  ·cases e
theorem yPs {as nm n args}(h1:args.any yO=false→∀id,(id∈args.flatMap qL∨fu nm id=true)→h id=h' id)(h2:args.any yO=true→h=h'):rN as nm n args h=rN as nm n args h':=by
 cases hb:args.any yO with
 |true=>rw[h2 hb]
 |false=>
  have hh:=h1 hb;unfold rN;rw[Rc (h:=h) (h':=h') (by grind)];cases e:jc h' as args with
  |none=>rfl
  |some p=>
   obtain⟨cC,u⟩:=p;obtain⟨k1,k2⟩:=Re e;dsimp only;rw[Ra (h:=zX h u) (h':=zX h' u) (k2 hb)];cases e2:jI (zX h' u) as cC with
   |none=>rfl
   |some q=>
    obtain⟨cs,bs⟩:=q;dsimp only;rw[Q9 (h:=zX h u) (h':=zX h' u) fun id ab=>nU (hh id (.inl (k1 id (Rb (k2 hb) e2 id ab))))];cases gW (zX h' u) (as.flatMap AX.cells) cs with
    |none=>rfl
    |some d=>
     cases hle:Nat.ble n 100 with
     |false=>simp
     |true=>
      have hle:=Nat.le_of_ble_eq_true hle;rw [F9 (h := h) (h' := h') fun i hi => hh _ (.inr (by
       simp only[fu,Bool.and_eq_true];exact⟨by simp,by simp[Nat.blt_eq];omega⟩))]
end
theorem Rf {as rs os ns X}{S:Nat→XD as→Option X}{pack}:AE fun k nm args h=>je as rs os ns (S k) pack nm args h:=by
 intro k nm args h h' h1 h2;show je as rs os ns (S k) pack nm args h=je as rs os ns (S k) pack nm args h';unfold je;rw[yPs h1 h2]
structure zD (P:Program) (r:Nat×gf):Prop where
 ok:Qg P r
 loc:AE r.2
def rQ (P:Program):List (Nat×gf)→Prop
 |[]=>True
 |r::l=>zD P r∧rQ P l
theorem rQ.all {P}:∀{l},rQ P l→∀r∈l,zD P r
 |a::l,h,r,hr=>by
  rcases List.mem_cons.1 hr with rfl|hr
  ·exact h.1
  ·exact rQ.all h.2 r hr
structure wL (E:wW):Prop where
 ok:wC E
 loc:jQ E.sums
 ord:E.P.follows .mixedOrders=true
theorem Rg {P l eqT}(he:uk P eqT)(hm:P.follows .mixedOrders=true)(h:rQ P l):wL ⟨P,eqT,jA l⟩:=
 ⟨⟨he,Qh fun r hr=>(h.all r hr).ok⟩,Qi fun r hr=>(h.all r hr).loc,hm⟩
theorem jk {P l}(hm:P.follows .mixedOrders=true)(h:rQ P l):wL ⟨P,fun _=>false,jA l⟩:=Rg yM3 hm h
theorem qD {P A pre na nt c L}(h:zY P pre na nt (zV c 0) L)(hn:(fG c).length=1:=by kernel_rfl) (hl:lD A (zV c 0)=some L:=by kernel_rfl):yS P A pre na nt c:=
 lY hn (by grind)
theorem loops0 {P A pre na nt c}(hn:(fG c).length=0:=by kernel_rfl):yS P A pre na nt c:=yAy hn
def Rh (E:wW)(A:qA)(na nt:Nat)(b:Code) ins outs {X Y:Type}(eQ:ly outs→X)(c:Y→ki ins→Option X)(bf:Nat→Y→Y):Prop:=
 ∀k rec d,c (bf k rec) d=zh (1000+wI) ins d fun st=>jJ E A k 1000 na nt b st (NV 1000 ins outs eQ (c rec))
abbrev yBh (X:Type):=Nat→X→(R:Type)→(Ex→St→Option R)→Option R
theorem ySk {E A na nt b ins outs X Y eQ c bf}(hE:wL E)(hs:Rh E A na nt b ins outs eQ c bf)(f:Nat→Nat→Y)(elim:yBh X)
  (hX:∀o R K,elim (1000+wI) (eQ o) R K=qc (1000+wI) outs o K) (hL:yS E.P A 1000 na nt b) (h0:∀k d,c (f k 0) d=none:=by intros;rfl) (h1:∀k n,f k (n+1)=bf k (f k n):=by intros;rfl):
  zY E.P 1000 na nt b ⟨ins,outs,X,fun k d=>c (f k k) d,elim⟩:=
 yFu hE.ok hE.loc hE.ord hL eQ elim hX (fun k n d=>c (f k n) d) h0 (fun k n d=>by rw[h1];exact hs k (f k n) d)
def GG (E:wW)(A:qA)(na:Nat)(fn:Func) as (rs:RS){X}(up:RL rs.cells→X)(S:Nat→AD as→Option X):Prop:=
 ∀k d,dV E A k 1000 na fn (gQ as d).1 (gQ as d).2 (fb rs up)=S k d
def Ri (E:wW)(A:qA)(na:Nat)(fn:Func) as (rs:RS)(os:List (List RC))(ns:Nat){X}(up:RL (rs.cells++os.flatten)→X)(S:Nat→XD as→Option X):Prop:=
 ∀k d,dV E A k 1000 na fn (gX as d).1 (gX as d).2 (vn as rs os ns up)=S k d
theorem yDp {E A na f fn as rs X S pack}{unpack:RL rs.cells→X}(hE:wL E)(aF:GG E A na fn as rs unpack S)(hL:yS E.P A 1000 na fn.ntmps (zW fn))
  (hf:E.P.funcs[f]? =some fn:=by kernel_rfl) (hb:fn.body.isNone=false:=by kernel_rfl) (hn:(fn.name== "runtime.NumGoroutine")=false:=by kernel_rfl) (dH:∀d,pack (unpack d)=d:=by intro d;rfl):
  zD E.P (f,fun k nm args h=>gb as rs (S k) pack nm args h):=
 ⟨fun k _ _ _ _ _ hy=>ySz hE.ok hE.loc hE.ord hf (body_loops hL) (AF hf hb hn) dH (aF k) hy,Qp⟩
theorem yQu {E A na f fn as rs os ns X}{S:Nat→XD as→Option X}{pack unpack}(hE:wL E)(aF:Ri E A na fn as rs os ns unpack S)
  (hL:yS E.P A 1000 na fn.ntmps (zW fn)) (hf:E.P.funcs[f]? =some fn:=by kernel_rfl) (hb:fn.body.isNone=false:=by kernel_rfl) (hn:(fn.name== "runtime.NumGoroutine")=false:=by kernel_rfl) (kQ:vh as na=true:=by kernel_rfl) (me:(!as.any AX.isChn||A.loops.isEmpty)=true:=by kernel_rfl) (dH:∀d,pack (unpack d)=d:=by intro d;rfl):
  zD E.P (f,fun k nm args h=>je as rs os ns (S k) pack nm args h):=
 ⟨fun k _ _ _ _ _ hy=>yF7 hE.ok hE.loc hE.ord hf (body_loops hL) (AF hf hb hn) dH kQ me (aF k) hy,Rf⟩
theorem yRm {E A na f fn sh t rs X}{S:Nat→List t.den→Option X}{pack unpack}(hE:wL E)(bI:∀k,dV E A k 1000 na fn [.c .nsl] (eE []) (fb rs unpack)=S k [])
  (aF:∀k xs,dV E A k 1000 na fn [.c (.nfl sh t xs)] (eE []) (fb rs unpack)=S k xs) (hL:yS E.P A 1000 na fn.ntmps (zW fn)) (hf:E.P.funcs[f]? =some fn:=by kernel_rfl) (hb:fn.body.isNone=false:=by kernel_rfl) (hn:(fn.name== "runtime.NumGoroutine")=false:=by kernel_rfl) (dH:∀d,pack (unpack d)=d:=by intro d;rfl):
  zD E.P (f,fun k nm args h=>gb [.c (.dat sh t)] rs (fun d=>S k d.1) pack nm args h):=
 ⟨fun k _ _ _ _ _ hy=>yQj hE.ok hE.loc hE.ord hf (body_loops hL) (AF hf hb hn) dH (fun x hx=>(bI k).trans hx) (by grind) hy,Qp⟩
def oG (k:Nat)(a b c:Int):Option (Int×Int):=
 bif decide (c=0) then some (Int.ofNat ((a.toNat+b.toNat+0)%18446744073709551616),Int.ofNat ((a.toNat+b.toNat+0)/18446744073709551616)) else none
def AY:gf:=fun k nm args h=>match args with
 |[.c (.int .u64 a),.c (.int .u64 b),.c (.int .u64 c)]=>.call (Int×Int) (oG k a b c) (fun r=>(.tup [(false,[.int .u64 r.1]),(false,[.int .u64 r.2])],[]))
 |_=>.stuck
theorem yBz {P} a b w:
  (add64Entry #[.int .u64 a,.int .u64 b,.int .u64 0]).run P w=.ok (.tuple #[.int .u64 (Int.ofNat ((a.toNat+b.toNat+0)%18446744073709551616)),.int .u64 (Int.ofNat ((a.toNat+b.toNat+0)/18446744073709551616))]) w:=rfl
theorem yFs {P f fn}(hf:P.funcs[f]? =some fn:=by kernel_rfl) (hY:(fn.name== "runtime.NumGoroutine")=false:=by kernel_rfl) (hb:fn.body.isNone=true:=by kernel_rfl)
  (hn:Extern.findNext fn=none:=by kernel_rfl) (he:Extern.find fn=some add64Entry:=by kernel_rfl):
  zD P (f,AY):=by
 refine⟨fun k nm args h v u hy=>?_,fun _ _ _ _ _ _ _=>rfl⟩;intro M w vs hh hH ok hv;refine .inr ?_;replace hy:qJ (AY k nm args h) v u:=hy;unfold AY at hy;split at hy
 ·rename_i a b c;obtain⟨x,hx,rfl,rfl⟩:=hy
  match hl:vs.toList,hv with
  |[v1,v2,v3],hv=>
   obtain⟨h1,h2,h3,_⟩:=hv;cases h1;cases h2;cases h3;obtain rfl:vs=#[.int .u64 a,.int .u64 b,.int .u64 c]:=by grind
   obtain⟨hc,hx⟩:=yL hx;cases hx;have hc:c=0:=by simp_all
   subst hc;refine⟨.tuple #[.int .u64 (Int.ofNat ((a.toNat+b.toNat+0)%18446744073709551616)),.int .u64 (Int.ofNat ((a.toNat+b.toNat+0)/18446744073709551616))],w,M,?_,⟨rfl,rfl,rfl,hH,rfl,ok,.refl M⟩,?_⟩
   ·rw[run_callFunc_extern hf hY hb hn he,yBz a b w];rfl
   ·exact⟨#[.int .u64 (Int.ofNat ((a.toNat+b.toNat+0)%18446744073709551616)),.int .u64 (Int.ofNat ((a.toNat+b.toNat+0)/18446744073709551616))],rfl,rfl,rfl,trivial⟩
 ·exact hy.elim
abbrev sP (d i:Nat):Nat×VS:=(d,.c (.lit (.ptr (1001000+i) 0)))
abbrev sO (d i:Nat):Nat×VS:=(d,.c (.lit (.osl (1001000+i) none)))
abbrev sI (d:Nat):Nat×VS:=(d,.c (.int .i64))
abbrev oB (l:List CS):OS:=.box true l
abbrev oA (t:Ty):OS:=.arr true t
abbrev sp (l:List (Nat×VS))(o:List OS):zF:=⟨l,o,[]⟩
def zJ (f:Nat)(as:List AS)(rs:RS){X:Type}(s:Nat→AD as→Option X)(pk:X→RL rs.cells)(_:RL rs.cells→X):Nat×gf:=(f,fun k nm args h=>gb as rs (s k) pk nm args h)
def vL (f:Nat)(as:List AX)(rs:RS)(os:List (List RC))(ns:Nat){X:Type}(s:Nat→XD as→Option X)(pk:X→RL (rs.cells++os.flatten))(_:RL (rs.cells++os.flatten)→X):Nat×gf:=(f,fun k nm args h=>je as rs os ns (s k) pk nm args h)
theorem fA {E:wW}(fn:Func)(A:qA){f:Nat}{as:List AS}{rs:RS}{X:Type}{s:Nat→AD as→Option X}{pk:X→RL rs.cells}{up:RL rs.cells→X}(hE:wL E)(hL:yS E.P A 1000 0 fn.ntmps (zW fn))
  (aF:GG E A 0 fn as rs up s:=by intro k d;kernel_rfl)
  (hf:E.P.funcs[f]? =some fn:=by kernel_rfl) (hb:fn.body.isNone=false:=by kernel_rfl) (hn:(fn.name== "runtime.NumGoroutine")=false:=by kernel_rfl) (dH:∀d,pk (up d)=d:=by intro d;rfl):
  zD E.P (zJ f as rs s pk up):=yDp hE aF hL hf hb hn dH
theorem fX {E:wW}(fn:Func)(A:qA)(na:Nat){f:Nat}{as:List AX}{rs:RS}{os:List (List RC)}{ns:Nat}{X:Type}{s:Nat→XD as→Option X}{pk:X→RL (rs.cells++os.flatten)}{up:RL (rs.cells++os.flatten)→X}(hE:wL E)(hL:yS E.P A 1000 na fn.ntmps (zW fn))
  (aF:Ri E A na fn as rs os ns up s:=by intro k d;kernel_rfl)
  (hf:E.P.funcs[f]? =some fn:=by kernel_rfl) (hb:fn.body.isNone=false:=by kernel_rfl) (hn:(fn.name== "runtime.NumGoroutine")=false:=by kernel_rfl) (kQ:vh as na=true:=by kernel_rfl) (me:(!as.any AX.isChn||A.loops.isEmpty)=true:=by kernel_rfl) (dH:∀d,pk (up d)=d:=by intro d;rfl):
  zD E.P (vL f as rs os ns s pk up):=yQu hE aF hL hf hb hn kQ me dH
def oH (f:Nat)(sh:Bool)(t:Ty)(r:RC)(s:Nat→List t.den→Option r.den):Nat×gf:=
 (f,fun k nm args h=>gb [.c (.dat sh t)] (.c r) (fun d=>s k d.1) (fun x=>(x,())) nm args h)
theorem fC {E:wW}(fn:Func)(A:qA){f:Nat}{sh:Bool}{t:Ty}{r:RC}{s:Nat→List t.den→Option r.den}(hE:wL E)(hL:yS E.P A 1000 0 fn.ntmps (zW fn))
  (bI:∀k,dV E A k 1000 0 fn [.c .nsl] (eE []) (fb (.c r) (fun d=>d.1))=s k []:=by intro k;kernel_rfl)
  (aF:∀k xs,dV E A k 1000 0 fn [.c (.nfl sh t xs)] (eE []) (fb (.c r) (fun d=>d.1))=s k xs:=by intro k xs;kernel_rfl)
  (hf:E.P.funcs[f]? =some fn:=by kernel_rfl) (hb:fn.body.isNone=false:=by kernel_rfl) (hn:(fn.name== "runtime.NumGoroutine")=false:=by kernel_rfl):zD E.P (oH f sh t r s):=
 yRm (rs:=.c r) (pack:=fun x=>(x,())) (unpack:=fun d=>d.1) hE bI aF hL hf hb hn
def yT {T:Type}(z:T)(b:T→T):Nat→T
 |0=>z
 |n+1=>b (yT z b n)
theorem lp {E:wW}{A:qA}{na nt:Nat}{b:Code}(L:qB){Y:Type}(eQ:ly L.outs→L.X)(c:Y→ki L.ins→Option L.X)(f:Nat→Nat→Y)(bf:Nat→Y→Y)(hE:wL E)(hL:yS E.P A 1000 na nt b)
  (hs:Rh E A na nt b L.ins L.outs eQ c bf:=by intro k rec d;kernel_rfl)
  (hX:∀o R K,L.elim (1000+wI) (eQ o) R K=qc (1000+wI) L.outs o K:=by intro o R K;first|rfl|(rcases o with o|o<;>rfl)|(rcases o with o|o|o<;>rfl)|(rcases o with o|o|o|o<;>rfl)|(rcases o with o|o|o|o|o<;>rfl))
  (h0:∀k d,c (f k 0) d=none:=by intros;rfl) (h1:∀k n,f k (n+1)=bf k (f k n):=by intros;rfl) (hf:(⟨L.ins,L.outs,L.X,fun k d=>c (f k k) d,L.elim⟩:qB)=L:=by rfl):zY E.P 1000 na nt b L:=by
 rw[←hf];exact ySk hE hs f _ hX hL h0 h1
def ins {α:Type}(b:Nat)(xs:List α)(i:Int)(ys:List α):Option (List α):=
 bif decide (0≤i)&&decide (i≤(xs.length:Int))&&Nat.beq ys.length 1&&qT (xs.length+1) b then some (xs.take i.toNat++(ys++xs.drop i.toNat)) else none
end Go.Ab
