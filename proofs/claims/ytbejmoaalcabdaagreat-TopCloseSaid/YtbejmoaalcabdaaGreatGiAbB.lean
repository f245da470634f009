/- part 1 -/
import Derived.Test.YtbejmoaalcabdaaGreatGiAbA
import Derived.Laws.BytesString
set_option linter.unusedVariables false
set_option linter.unusedSimpArgs false
namespace Go.Ab
theorem uw {P:Program}{w:World}{k:IntKind}{i:Int}{y:Nat}{c:BoundsCode}(h0:0≤i)(h1:i≤y):(Instr.sliceBound (.int k i) y c).run P w=.ok i.toNat w:=by
 simp[Instr.sliceBound,asIntOf,h0,h1]
def xW (M:zB):Option zD→Option Value→Prop
 |none,none=>True
 |some a,some v=>zU M a v
 |_,_=>False
theorem CZ {P:Program}{M:zB}{w:World}{b:Bool}{len cap l u:Nat}{lo hi:Option zD}{ir gT:Option Value}(j4:xW M lo ir)(jb:xW M hi gT)(hc:len≤cap)
  (h:rW len lo hi=some (true,l,u)):(Instr.sliceBounds b len cap ir gT none).run P w=.ok (l,u,cap) w∧l≤u∧u≤len∧(lo=none→l=0)∧(hi=none→u=len):=by
 unfold rW at h
 split at h
 ·cases h
  cases ir with
  |some _=>exact j4.elim
  |none=>cases gT with
   |some _=>exact jb.elim
   |none=>exact⟨by simp[Instr.sliceBounds],Nat.zero_le _,Nat.le_refl _,fun _=>rfl,fun _=>rfl⟩
 ·rename_i k i
  simp only[Option.some.injEq,Prod.mk.injEq,Bool.and_eq_true,decide_eq_true_eq] at h
  obtain⟨⟨h0,h1⟩,rfl,rfl⟩:=h
  cases gT with
  |some _=>exact jb.elim
  |none=>cases ir with
   |none=>exact j4.elim
   |some v=>
    have e:v=.int k i:=j4
    subst e
    refine⟨?_,by omega,Nat.le_refl _,fun h=>(by cases h),fun _=>rfl⟩
    simp only[Instr.sliceBounds,Sem.run_bind,Sem.run_pure,Result.andThen_ok]
    rw[uw h0 h1]
    rfl
 ·rename_i k i
  simp only[Option.some.injEq,Prod.mk.injEq,Bool.and_eq_true,decide_eq_true_eq] at h
  obtain⟨⟨h0,h1⟩,rfl,rfl⟩:=h
  cases ir with
  |some _=>exact j4.elim
  |none=>cases gT with
   |none=>exact jb.elim
   |some v=>
    have e:v=.int k i:=jb
    subst e
    refine⟨?_,Nat.zero_le _,by omega,fun _=>rfl,fun h=>(by cases h)⟩
    simp only[Instr.sliceBounds,Sem.run_bind,Sem.run_pure,Result.andThen_ok]
    rw[uw h0 (by omega)]
    rfl
 ·rename_i k i k' i'
  simp only[Option.some.injEq,Prod.mk.injEq,Bool.and_eq_true,decide_eq_true_eq] at h
  obtain⟨⟨⟨h0,h1⟩,h2⟩,rfl,rfl⟩:=h
  cases ir with
  |none=>exact j4.elim
  |some v=>cases gT with
   |none=>exact jb.elim
   |some v'=>
    have e:v=.int k i:=j4
    have e':v'=.int k' i':=jb
    subst e;subst e'
    refine⟨?_,by omega,by omega,fun h=>(by cases h),fun h=>(by cases h)⟩
    simp only[Instr.sliceBounds,Sem.run_bind,Sem.run_pure,Result.andThen_ok]
    rw[uw (by omega) (by omega)]
    simp only[Result.andThen_ok]
    rw[uw h0 (by omega)]
    rfl
 ·cases h
def mg (A:Option Addr)(l c size:Nat):Option Addr:=if c=l then A else A.map (·.add (l*size))
theorem wH.cut {H:Array Go.Obj}{C:zS}{lo n l u:Nat}{A:Option Addr}{c:Nat}(h:wH H C lo n (.slice A n c))(h1:l≤u)(h2:u≤n):
  wH H C (lo+l) (u-l) (.slice (mg A l c C.sz) (u-l) (c-l)):=by
 obtain⟨A',c',e,h⟩:=h
 simp only[Value.slice.injEq] at e
 obtain⟨rfl,_,rfl⟩:=e
 refine⟨_,_,rfl,?_⟩
 cases hB:C.blk with
 |none=>
  rw[hB] at h
  obtain⟨rfl,rfl,rfl⟩:=h
  refine⟨?_,by omega,by omega⟩
  unfold mg;split<;>rfl
 |some B=>
  rw[hB] at h
  obtain⟨hc,a,rfl,ha,hs⟩:=h
  refine⟨by omega,?_⟩
  unfold mg
  by_cases e:c=l
  ·rw[if_pos e]
   exact⟨a,rfl,.inl (by omega),by rw[show lo+l+(c-l)=lo+c by omega];exact hs⟩
  ·rw[if_neg e]
   refine⟨a+l*C.sz,by simp[Addr.add_lit],.inr ?_,by rw[show lo+l+(c-l)=lo+c by omega];exact hs⟩
   have:a=lo*C.sz:=by rcases ha with ha|ha<;>omega
   rw[this,Nat.add_mul]
theorem wH.cut' {H:Array Go.Obj}{C:zS}{lo n l u:Nat}{A:Option Addr}{c:Nat}(h:wH H C lo n (.slice A n c))(h1:l≤u)(h2:u≤c):
  wH H C (lo+l) (u-l) (.slice (mg A l c C.sz) (u-l) (c-l)):=by
 obtain⟨A',c',e,h⟩:=h
 simp only[Value.slice.injEq] at e
 obtain⟨rfl,_,rfl⟩:=e
 refine⟨_,_,rfl,?_⟩
 cases hB:C.blk with
 |none=>
  rw[hB] at h
  obtain⟨rfl,rfl,rfl⟩:=h
  refine⟨?_,by omega,by omega⟩
  unfold mg;split<;>rfl
 |some B=>
  rw[hB] at h
  obtain⟨hc,a,rfl,ha,hs⟩:=h
  refine⟨by omega,?_⟩
  unfold mg
  by_cases e:c=l
  ·rw[if_pos e]
   exact⟨a,rfl,.inl (by omega),by rw[show lo+l+(c-l)=lo+c by omega];exact hs⟩
  ·rw[if_neg e]
   refine⟨a+l*C.sz,by simp[Addr.add_lit],.inr ?_,by rw[show lo+l+(c-l)=lo+c by omega];exact hs⟩
   have:a=lo*C.sz:=by rcases ha with ha|ha<;>omega
   rw[this,Nat.add_mul]
theorem vKy {H:Array Go.Obj}{F:Nat→Prop}{t:Ty}{xs:List t.den}{A:Option Addr}{n c l u:Nat}(h:zY H F (.sl t) xs (fun _=>some (.slice A n c)))(h1:l≤u)(h2:u≤n):
  zY H F (.sl t) (yB xs l (u-l)) (fun _=>some (.slice (mg A l c t.size) (u-l) (c-l))):=by
 simp only[zY,Option.some.injEq,Value.slice.injEq] at h⊢
 obtain⟨A',n',c',⟨rfl,rfl,rfl⟩,hn,hc,h⟩:=h
 have hl:=xS (xs:=xs) (lo:=l) (n:=u-l) (by omega)
 refine⟨_,_,_,⟨rfl,rfl,rfl⟩,hl.symm,by omega,?_⟩
 by_cases e0:u-l=0
 ·refine .inl ⟨List.eq_nil_of_length_eq_zero (by omega),fun hA=>?_⟩
  rcases h with⟨rfl,h0⟩|⟨B,o,rfl,_⟩
  ·cases A with
   |none=>rw[h0 rfl];omega
   |some a=>
    unfold mg at hA
    split at hA<;>cases hA
  ·unfold mg at hA
   split at hA<;>cases hA
 ·rcases h with⟨rfl,_⟩|⟨B,o,rfl,hB,hE⟩
  ·simp at hn;omega
  ·refine .inr ⟨B,o+l*t.size,?_,hB,fun i hi=>?_⟩
   ·unfold mg
    rw[if_neg (by omega)]
    simp[Addr.add_lit]
   ·obtain⟨bS,e1⟩:=GS hi
    rw[e1]
    have:=hE (l+i) bS
    rw[Nat.add_mul,←Nat.add_assoc] at this
    exact this
theorem WZ {P:Program}{w:World}{t e:TypeId}{A:Option Addr}{n c l u:Nat}{ir gT:Option Value}(hu:P.underlying t=some (.slice e))(he:0<P.cellsOf e)
  (hb:(Instr.sliceBounds true n c ir gT none).run P w=.ok (l,u,c) w):
  (Instr.sliceAt t (.slice A n c) ir gT none).run P w=.ok (.slice (mg A l c (P.cellsOf e)) (u-l) (c-l)) w:=by
 obtain⟨y,hy⟩:=mN he
 simp only[Instr.sliceAt,Sem.run_bind,run_underlying hu,Result.andThen_ok,Instr.slice,hb,gQ w hy,Sem.run_pure,mg]
theorem W0 {M:zB}:∀{vs:List zG} {us:List Value} {ns:List Int},uh vs=some ns→zP (zW M) vs us→us=ns.map (.int .i64 ·)∧vs=ns.map (.int .i64 ·)
 |[],[],ns,h,_=>by cases h;exact⟨rfl,rfl⟩
 |v::vs,u::us,ns,h,hh=>by
  unfold uh at h
  split at h
  ·rename_i heq;cases heq
  ·rename_i n l heq
   cases heq
   split at h
   ·rename_i r hr
    cases h
    obtain⟨e1,e2⟩:=W0 hr hh.2
    have:u=.int .i64 n:=hh.1
    rw[this,e1,e2]
    exact⟨rfl,rfl⟩
   ·cases h
  ·cases h
 |[],_::_,_,_,hh=>hh.elim
 |_::_,[],_,_,hh=>hh.elim
theorem W1 {M:zB}(ok:Ok M){id:Nat}{own:Bool}{cells:List zG}(aa:M.h id=some (.box own cells)):
  ∃M',M'.H=M.H∧M'.h=yG M.h id (.box false cells)∧Ok M'∧yT M M'∧M'.h id=some (.box false cells):=by
 cases own with
 |false=>exact⟨M,rfl,(xR aa).symm,ok,yT.refl M,aa⟩
 |true=>
  obtain⟨C,hC,hO⟩:=ok.obj id _ aa
  have pH:yR (M.freeze id (.box false cells) C) (.box false cells) C:=by
   have x:yK M (M.freeze id (.box false cells) C):=⟨fun _ C h=>⟨C,h,C.le_refl⟩,fun _ h=>.inl h,fun _ h=>.inl h,fun _ _=>rfl,fun _ _=>rfl,fun _ _=>rfl⟩
   obtain⟨B,vals,e,h1,h2,h3,h4,h5⟩:=hO.ext x fun _ _ _=>rfl
   exact⟨B,vals,e,h1,h2,h3,h4,fun _=>.inr (jL h1)⟩
  have:=zB.freeze_ok ok aa rfl hC rfl pH
  exact⟨M.freeze id _ C,rfl,rfl,this.1,this.2,yH _ _ _⟩
theorem yY1 {P:Program}{M:zB}{w:World}(ok:Ok M)(hM:M.H=w.heap){t:TypeId}{x v:zD}{lo hi mx:Option zD}{u:zZ}{rx:Value}{ir gT xX:Option Value}
  (hx:zU M x rx) (j4:xW M lo ir) (jb:xW M hi gT) (C3:xW M mx xX) (h:yI (xE P M.h t x lo hi mx) v u):qL P (Instr.sliceAt t rx ir gT xX) M w v u:=by
 unfold xE at h
 split at h
 ·rename_i e sh ty xs hu
  cases xX with
  |some _=>exact C3.elim
  |none=>
  obtain⟨hz,h⟩:=jV h
  have hz:=Nat.eq_of_beq_eq_true hz
  split at h
  ·rename_i iq l u' hc
   obtain⟨rfl,rfl,rfl⟩:=lz h
   have mS:zY M.H (bif sh then M.G else M.F) (.sl ty) xs (fun _=>some rx):=hx
   have G1:=mS
   simp only[zY,Option.some.injEq] at G1
   obtain⟨A,m,c,rfl,rfl,j3,_⟩:=G1
   obtain⟨b1,b2,b3,b4,b5⟩:=CZ (P:=P) (w:=w) (b:=true) j4 jb j3 hc
   refine qL.pure ok hM (WZ hu (by rw[hz];exact ty.size_pos) b1) ?_
   have key:=vKy mS b2 b3
   rw[←hz] at key
   show zY _ _ _ _ _
   split
   ·rw[b4 rfl,b5 rfl] at key⊢
    simpa[yB] using key
   ·rw[b5 rfl] at key⊢
    have:yB xs l (xs.length-l)=xs.drop l:=by simp only[yB];rw[List.take_of_length_le (by simp)]
    rw[this] at key
    exact key
   ·rw[b4 rfl] at key⊢
    simpa[yB] using key
   ·exact key
  ·exact h.elim
 ·rename_i e id r hu
  cases xX with
  |some _=>exact C3.elim
  |none=>
  split at h
  ·rename_i own ty xs aa
   obtain⟨hz,h⟩:=jV h
   have hz:=Nat.eq_of_beq_eq_true hz
   split at h
   ·rename_i iq l u' hc
    obtain⟨rfl,rfl,rfl⟩:=lz h
    obtain⟨C,hC,hS⟩:=hx
    obtain⟨C',ax,hO⟩:=ok.obj _ _ aa
    rw[hC] at ax;cases ax
    have hlen:=hO.1
    have dM:=hO.2.1
    have key:∀pM m,pM+m≤C.len→wH M.H C pM m rx→MO C pM rx→rW (match hi with|none=>m|some _=>C.len-pM) lo hi=some (true,l,u')→
      qL P (Instr.sliceAt t rx ir gT none) M w (.c (.osl id (some (pM+l,u'-l)))) []:=by
     intro pM m hm pL gh j3
     have hS0:=pL
     clear hS
     obtain⟨A,c,rfl,_⟩:=hS0
     obtain⟨_,_,_,gh,ux⟩:=gh
     cases gh
     have Nk:m≤c:=by
      obtain⟨A',c',e,Nl⟩:=pL
      simp only[Value.slice.injEq] at e
      obtain⟨rfl,_,rfl⟩:=e
      cases hB:C.blk with
      |none=>rw[hB] at Nl;omega
      |some B=>rw[hB] at Nl;exact Nl.1
     have hb:∃k,(Instr.sliceBounds true m c ir gT none).run P w=.ok (l,u',c) w∧l≤u'∧u'≤k∧k≤c∧pM+k≤C.len:=by
      cases hi with
      |none=>
       obtain⟨b1,b2,b3,b4,b5⟩:=CZ (P:=P) (w:=w) (b:=true) j4 jb Nk j3
       exact⟨m,b1,b2,b3,Nk,hm⟩
      |some y=>
       have hk:C.len-pM≤c:=by omega
       obtain⟨b1,b2,b3,b4,b5⟩:=CZ (P:=P) (w:=w) (b:=true) j4 jb hk j3
       refine⟨C.len-pM,?_,b2,b3,hk,by omega⟩
       cases gT with
       |none=>exact jb.elim
       |some ry=>exact b1
     obtain⟨k,b1,b2,b3,b6,b7⟩:=hb
     refine qL.pure ok hM (WZ hu (by rw[hz];exact ty.size_pos) b1) ⟨C,hC,by omega,?_,_,_,_,rfl,by omega⟩
     have:=wH.cut' pL b2 (show u'≤c by omega)
     rw[hz,←dM]
     exact this
    cases r with
    | none => exact key 0 C.len (by omega) hS (by
      obtain⟨A,c,rfl,h⟩:=hS
      refine⟨A,_,c,rfl,?_⟩
      cases hB:C.blk with
      |none=>rw[hB] at h;omega
      | some B => rw [hB] at h; have := h.1; omega) (by
      unfold MC at hc
      rw[←hlen] at hc
      cases hi<;>exact hc)
    | some p => exact key p.1 p.2 hS.1 hS.2.1 hS.2.2 (by
      unfold MC at hc
      rw[←hlen] at hc
      cases hi<;>exact hc)
   ·exact h.elim
  ·exact h.elim
 ·rename_i e km m id hu
  split at h
  ·rename_i own ty xs aa
   obtain⟨hz,h⟩:=jV h
   have hz:=Nat.eq_of_beq_eq_true hz
   split at h
   ·skip
    rename_i a b iq l u' _ hc
    obtain⟨eI,rfl,rfl⟩:=lz h
    simp only[Bool.and_eq_true,decide_eq_true_eq] at eI
    obtain⟨⟨eI,h1⟩,h2⟩:=eI
    subst eI
    obtain⟨C,hC,hS⟩:=hx
    obtain⟨C',ax,hO⟩:=ok.obj _ _ aa
    rw[hC] at ax;cases ax
    have hlen:=hO.1
    obtain⟨A,c,rfl,hS⟩:=hS
    have Nk:C.len≤c:=by
     cases hB:C.blk with
     |none=>rw[hB] at hS;omega
     |some B=>rw[hB] at hS;exact hS.1
    cases xX with
    |none=>exact C3.elim
    |some rm=>
     have hrm:rm=.int km m:=C3
     subst hrm
     obtain⟨b1,b2,b3,b4,b5⟩:=CZ (P:=P) (w:=w) (b:=true) j4 jb (Nat.le_refl xs.length) hc
     obtain⟨i,hi⟩:=mN (P:=P) (t:=e) (by rw[hz];exact ty.size_pos)
     cases ir with
     |none=>exact j4.elim
     |some rl=>cases gT with
      |none=>exact jb.elim
      |some rh=>
       have hbb:∃k1 i1 k2 i2,rl=.int k1 i1∧rh=.int k2 i2∧0≤i1∧i1≤i2∧i2≤(xs.length:Int)∧l=i1.toNat∧u'=i2.toNat:=by
        unfold rW at hc
        split at hc
        ·rename_i e1 _;cases e1
        ·rename_i e1;cases e1
        ·rename_i e1 _;cases e1
        ·rename_i k i k' i' e1 e2
         cases e1;cases e2
         simp only[Option.some.injEq,Prod.mk.injEq,Bool.and_eq_true,decide_eq_true_eq] at hc
         obtain⟨⟨⟨q0,q1⟩,q2⟩,rfl,rfl⟩:=hc
         exact⟨k,i,k',i',j4,jb,q0,q1,q2,rfl,rfl⟩
        ·cases hc
       obtain⟨k1,i1,k2,i2,rfl,rfl,q0,q1,q2,rfl,rfl⟩:=hbb
       have hr:∃v,(Instr.sliceAt t (.slice A C.len c) (some (.int k1 i1)) (some (.int k2 i2)) (some (.int km m))).run P w=.ok v w∧v.one1=true:=by
        refine⟨.slice (if m.toNat=i1.toNat then A else A.map (·.add (i1.toNat*P.cellsOf e))) (i2.toNat-i1.toNat) (m.toNat-i1.toNat),?_,rfl⟩
        have e1:=uw (P:=P) (w:=w) (k:=km) (i:=m) (y:=c) (c:=.slice3Acap) (by omega) (by omega)
        have e2:=uw (P:=P) (w:=w) (k:=k2) (i:=i2) (y:=m.toNat) (c:=.slice3B) (by omega) (by omega)
        have e3:=uw (P:=P) (w:=w) (k:=k1) (i:=i1) (y:=i2.toNat) (c:=.slice3C) (by omega) (by omega)
        simp[Instr.sliceAt,run_underlying hu,Instr.slice,Instr.sliceBounds,e1,e2,e3,gQ w hi]
       obtain⟨v,hr,hv⟩:=hr
       exact qL.pure ok hM hr hv
   ·exact h.elim
  ·exact h.elim
 ·rename_i n e id off hu
  cases xX with
  |some _=>exact C3.elim
  |none=>
  obtain⟨hz,h⟩:=jV h
  have hz:=Nat.eq_of_beq_eq_true hz
  obtain⟨y,hy⟩:=mN (P:=P) (t:=e) (by omega)
  split at h
  ·rename_i own cells aa
   obtain⟨C,B,hC,hB,rfl⟩:=hx
   split at h
   ·obtain⟨_,h⟩:=jV h
    obtain⟨rfl,rfl⟩:=vP h
    have Nm:ir=none:=by cases ir with
     |none=>rfl
     |some _=>exact j4.elim
    have Nn:gT=none:=by cases gT with
     |none=>rfl
     |some _=>exact jb.elim
    subst Nm;subst Nn
    refine qL.pure ok hM (rv:=.slice (some ⟨B,off,none⟩) n n) ?_ ⟨C,B,hC,hB,rfl⟩
    simp[Instr.sliceAt,run_underlying hu,il,Instr.sliceBounds,gQ w hy,Addr.add_lit]
   ·split at h
    ·rename_i vs ew
     split at h
     ·rename_i ns iq l u' Np hc
      obtain⟨rfl,rfl,rfl⟩:=fc h
      obtain⟨b1,b2,b3,b4,b5⟩:=CZ (P:=P) (w:=w) (b:=false) j4 jb (Nat.le_refl n) hc
      obtain⟨M',a1,a2,a3,a4,a5⟩:=W1 ok aa
      obtain⟨C1,gi,le⟩:=a4.ext.κ id C hC
      obtain⟨C2,W2,hO⟩:=a3.obj id _ a5
      rw[gi] at W2;cases W2
      obtain⟨B',vals,ev,k1,k2,k3,k4,k5⟩:=hO
      rw[le.blk,hB] at k1;cases k1
      obtain⟨q1,q2,q3⟩:=CQ ew
      have bn:=WU k4 ew
      obtain⟨e1,e2⟩:=W0 Np bn
      have hlen:ns.length=n:=by rw[e2] at q3;simpa[hz] using q3
      refine⟨.slice (some (if n=l then⟨B,off,none⟩ else⟨B,off+l*P.cellsOf e,none⟩)) (u'-l) (n-l),w,M',?_,rfl,rfl,rfl,a1.trans hM,by cases own with
       |true=>exact a2
       |false=>rw[a2];exact xR aa,a3,a4,?_⟩
      ·simp[Instr.sliceAt,run_underlying hu,il,b1,gQ w hy,Addr.add_lit]
      ·show zY M'.H (bif true then M'.G else M'.F) (.sl (.int .i64)) (yB ns l (u'-l)) (fun _=>some _)
       simp only[zY,Option.some.injEq,Value.slice.injEq]
       have hl:=xS (xs:=ns) (lo:=l) (n:=u'-l) (by omega)
       refine⟨_,_,_,⟨rfl,rfl,rfl⟩,hl.symm,by omega,?_⟩
       by_cases e0:u'-l=0
       ·exact .inl ⟨List.eq_nil_of_length_eq_zero (by omega),fun h=>by cases h⟩
       ·refine .inr ⟨B,off+l*P.cellsOf e,by rw[if_neg (by omega)],k5 rfl,fun i hi=>?_⟩
        obtain⟨bS,e3⟩:=GS hi
        rw[e3,hz]
        simp only[zY,Ty.size,Nat.mul_one,Nat.add_zero,yC,k3]
        have e4:(vals.extract off (off+n)).toList[l+i]? =(ns.map (Value.int .i64 ·))[l+i]? :=by rw[e1]
        simp only[Array.getElem?_toList,List.getElem?_map,List.getElem?_eq_getElem bS,Option.map_some] at e4
        rw[Array.getElem?_extract] at e4
        split at e4
        ·rw[Nat.add_assoc];exact e4
        ·cases e4
     ·exact h.elim
    ·exact h.elim
  ·exact h.elim
 ·exact h.elim
def zB.move (M:zB)(nm:Nat)(C:zS)(h:Hp)(H:Array Go.Obj):zB:={M with κ:=κset M.κ nm C,h:=h,H:=H}
theorem zB.move_ok {M:zB}(ok:Ok M){nm:Nat}{o':Obj}{C':zS}{h':Hp}{H':Array Go.Obj}(J:Nat→Prop)(aL:M.h nm=none)
    (hJ:∀j,J j→∃o,M.h j=some o∧o.owned=true∧h' j=some .gone) (C4:h' nm=some o') (bu:∀n,¬J n→n≠nm→h' n=M.h n) (dM:M.H.size≤H'.size)
    (hH:∀b,b<M.H.size→(∀j C,J j→M.κ j=some C→b∉C.fp)→H'[b]? =M.H[b]?) (cG:∀b,b<M.H.size→qX H' b=qX M.H b)
    (kI:∀b∈C'.fp,(M.H.size≤b∧b<H'.size)∨∃j C,J j∧M.κ j=some C∧b∈C.fp)
    (hO:yK M (M.move nm C' h' H')→yR (M.move nm C' h' H') o' C'):Ok (M.move nm C' h' H')∧yT M (M.move nm C' h' H'):=by
  have G2:∀j C b,J j→M.κ j=some C→b∈C.fp→qR M b:=fun j C b hj hC hb=>by
    obtain⟨o,h1,h2,_⟩:=hJ j hj
    exact⟨j,o,C,h1,h2,hC,hb⟩
  have sk:∀b,M.F b→∀j C,J j→M.κ j=some C→b∉C.fp:=fun b hF j C hj hC hb=>(ok.own b (G2 j C b hj hC hb)).1 hF
  have x:yK M (M.move nm C' h' H'):=
    { κ:=fun n D h=>by
        have:n≠nm:=fun e=>by rw[e,ok.non nm aL] at h;cases h
        exact⟨D,by simp only[zB.move];rw[κset_ne _ _ this];exact h,D.le_refl⟩
      F:=fun _ h=>h
      G:=fun _ h=>h
      same:=fun b h=>hH b (ok.Flt b h) (sk b h)
      sameG:=fun b h=>hH b (ok.Flt b (ok.GF b h)) (sk b (ok.GF b h))
      bsz:=cG}
  have Nq:∀j,J j→j≠nm:=fun j hj e=>by
    obtain⟨o,h1,_⟩:=hJ j hj
    rw[e,aL] at h1;cases h1
  have dg:∀n q,n≠nm→h' n=some q→q.owned=true→¬J n∧M.h n=some q:=by
    intro n q e h1 h2
    by_cases hj:J n
    · obtain⟨o,_,_,k⟩:=hJ n hj
      rw[k] at h1
      cases h1
      cases h2
    · exact⟨hj,by rw[←bu n hj e];exact h1⟩
  have gf:∀b,qR (M.move nm C' h' H') b→(M.H.size≤b∧b<H'.size)∨qR M b:=by
    rintro b ⟨n,q,D,h1,h2,h3,h4⟩
    by_cases e:n=nm
    · subst e
      simp only[zB.move,κset_same,Option.some.injEq] at h3
      subst h3
      rcases kI b h4 with h|⟨j,C,hj,hC,hb⟩
      · exact .inl h
      · exact .inr (G2 j C b hj hC hb)
    · obtain⟨_,eH⟩:=dg n q e h1 h2
      simp only[zB.move] at h3
      rw[κset_ne _ _ e] at h3
      exact .inr ⟨n,q,D,eH,h2,h3,h4⟩
  refine⟨ok.build x (fun n=>n=nm∨J n) (fun n hn=>bu n (fun hj=>hn (.inr hj)) (fun e=>hn (.inl e))) (fun n hn=>κset_ne _ _ fun e=>hn (.inl e)) ?_ ?_ dM ?_ ?_ ?_ ok.GF ?_,x,dM,?_,?_,fun b h _=>.inl h,fun b h _=>.inl h⟩
  · intro n q D hn h1 h2 h3 b hb
    refine hH b (ok.own b ⟨n,q,D,h1,h2,h3,hb⟩).2 fun j C hj hC hc=>?_
    obtain⟨o,k1,k2,_⟩:=hJ j hj
    exact ok.disj n j q o D C b (fun e=>hn (.inr (e▸hj))) h1 k1 h2 k2 h3 hC hb hc
  · intro n q D hn h1 h2 h3 b hb
    exact(ok.own b ⟨n,q,D,h1,h2,h3,hb⟩).1
  · rintro n q (rfl|hj) h1
    · simp only[zB.move] at h1
      rw[C4] at h1;cases h1
      exact⟨C',κset_same _ _ _,hO x⟩
    · obtain⟨o,k1,_,k⟩:=hJ n hj
      simp only[zB.move] at h1
      rw[k] at h1;cases h1
      obtain⟨C,hC,_⟩:=ok.obj n o k1
      exact⟨C,by simp only[zB.move];rw[κset_ne _ _ (Nq n hj)];exact hC,trivial⟩
  · rintro n (rfl|hj) h1
    · simp only[zB.move] at h1
      rw[C4] at h1;cases h1
    · obtain⟨o,_,_,k⟩:=hJ n hj
      simp only[zB.move] at h1
      rw[k] at h1;cases h1
  · rintro n q D b (rfl|hj) h1 h2 h3 hb
    · simp only[zB.move,κset_same,Option.some.injEq] at h3
      subst h3
      rcases kI b hb with C5|⟨j,C,hj,hC,bB⟩
      · refine⟨fun k qk Dk hk k1 k2 k3 k4=>?_,fun hF=>?_,C5.2⟩
        · obtain⟨_,xT⟩:=dg k qk hk k1 k2
          simp only[zB.move] at k3
          rw[κset_ne _ _ hk] at k3
          have:=(ok.own b ⟨k,qk,Dk,xT,k2,k3,k4⟩).2
          omega
        · have:=ok.Flt b hF
          omega
      · have ho:=ok.own b (G2 j C b hj hC bB)
        refine⟨fun k qk Dk hk k1 k2 k3 k4=>?_,ho.1,by simp only[zB.move];omega⟩
        obtain⟨hkJ,xT⟩:=dg k qk hk k1 k2
        simp only[zB.move] at k3
        rw[κset_ne _ _ hk] at k3
        obtain⟨o,j1,j2,_⟩:=hJ j hj
        exact ok.disj k j qk o Dk C b (fun e=>hkJ (e▸hj)) xT j1 k2 j2 k3 hC k4 bB
    · obtain⟨o,_,_,k⟩:=hJ n hj
      simp only[zB.move] at h1
      rw[k] at h1;cases h1
      cases h2
  · intro b hb
    have:=ok.Flt b hb
    simp only[zB.move];omega
  · intro b hb hn
    exact hH b hb fun j C hj hC hc=>hn (G2 j C b hj hC hc)
  · intro b hb aV
    rcases gf b hb with h|h
    · omega
    · exact h
theorem W3 {P:Program}{M:zB}{w:World}(ok:Ok M)(hM:M.H=w.heap){nm:Nat}{vs:List zG}{us:Array Value}{e:TypeId}{s:Sem Value}(aL:M.h nm=none)
  (dz:zP (zW M) vs us.toList) (hr:s.run P w=.ok (.pointer (some ⟨w.heap.size,0,none⟩)) (w.alloc (.cells us e))):
  qL P s M w (.c (.ptr nm 0)) [(nm,.box true vs)]:=by
 let C:zS:=⟨some M.H.size,0,0,0,[]⟩
 have := zB.new_ok ok aL (.box true vs) C (.cells us e) (by simp [C, zS.fp]) (by
  refine⟨M.H.size,us,e,rfl,rfl,uk,dz.mono fun _ _ h=>h.ext (zB.new_ext ok aL _ _ _),fun h=>(by cases h)⟩)
 exact⟨_,_,_,hr,rfl,rfl,rfl,by show M.H.push _=w.heap.push _;rw[hM],rfl,this.1,this.2,C,M.H.size,κset_same _ _ _,rfl,by rw[hM]⟩
theorem C6 {H:Array Go.Obj}{F:Nat→Prop}:∀(t:Ty) (rd:Nat→Option Value),(∀j,j<t.size→rd j=(fb t)[j]?)→zY H F t t.dflt rd
 |.int k,rd,h=>by simp only[zY,Ty.dflt];rw[h 0 (by simp[Ty.size])];rfl
 |.bool,rd,h=>by simp only[zY,Ty.dflt];rw[h 0 (by simp[Ty.size])];rfl
 |.sl t,rd,h=>by
  simp only[zY,Ty.dflt]
  exact⟨none,0,0,by rw[h 0 (by simp[Ty.size])];rfl,rfl,Nat.le_refl _,.inl ⟨by trivial,fun _=>rfl⟩⟩
 |.pair a b,rd,h=>by
  have hl:∀t:Ty,(fb t).length=t.size:=by
   intro t
   induction t with
   |pair a b uy uz=>simp[fb,Ty.size,uy,uz]
   |_=>rfl
  simp only[zY,Ty.dflt]
  simp only[Ty.size,fb] at h
  refine⟨C6 a rd fun j hj=>?_,C6 b _ fun j hj=>?_⟩
  ·rw[h j (by omega),List.getElem?_append_left (by rw[hl];exact hj)]
  ·rw[h _ (by omega),List.getElem?_append_right (by rw[hl];omega),hl]
   congr 1;omega
theorem so:∀t:Ty,(fb t).length=t.size
 |.int _|.bool|.sl _=>rfl
 |.pair a b=>by simp[fb,Ty.size,so a,so b]
theorem vF3 {a b:Value}(h:Mr a b=true):a=b:=by
 unfold Mr at h
 split at h
 ·simp only[Bool.and_eq_true,decide_eq_true_eq] at h
  rw[rU h.1,h.2]
 ·rename_i x y
  cases x<;>cases y<;>first|rfl|cases h
 ·rfl
 ·cases h
theorem W4:∀{l m:List Value},CE l m=true→l=m
 |[],[],_=>rfl
 |a::l,b::m,h=>by
  simp only[CE,Bool.and_eq_true] at h
  rw[vF3 h.1,W4 h.2]
 |[],_::_,h=>by cases h
 |_::_,[],h=>by cases h
theorem oq {P:Program}{e:TypeId}{t:Ty}(h:gO P e=some t):∃i z,P.info? e=some i∧i.zero=some z∧i.size=t.size∧z.cells.toList=fb t∧P.cellsOf e=t.size∧P.bytesOf e=i.bytes∧z.cells.size=t.size:=by
 unfold gO at h
 split at h
 ·rename_i t' i h1 h2
  split at h
  ·rename_i z hz
   cases hb:(Nat.beq i.size t'.size&&CE z.cells.toList (fb t')) with
   |false=>rw[hb] at h;cases h
   |true=>
    rw[hb] at h
    cases h
    simp only[Bool.and_eq_true] at hb
    have e1:=Nat.eq_of_beq_eq_true hb.1
    have e2:=W4 hb.2
    refine⟨i,z,h2,hz,e1,e2,by rw[MV h2];exact e1,yWj h2,?_⟩
    have:=congrArg List.length e2
    rw[so] at this
    simpa using this
  ·cases h
 ·cases h
theorem W5 {z:Value}{t:Ty}(h:z.cells.toList=fb t)(hs:z.cells.size=t.size){i j:Nat}(hj:j<t.size):z.cells[(i*t.size+j)%z.cells.size]! =(fb t)[j]'(by rw[so];exact hj):=by
 have e1:(i*t.size+j)%z.cells.size=j:=by rw[hs,Nat.mul_comm,Nat.mul_add_mod,Nat.mod_eq_of_lt hj]
 rw[e1,getElem!_pos z.cells j (by omega)]
 have:z.cells.toList[j]'(by simp;omega)=(fb t)[j]'(by rw[so];exact hj):=by simp only[h]
 simpa using this
theorem W6 {H:Array Go.Obj}{F:Nat→Prop}{z:Value}{t:Ty}(h:z.cells.toList=fb t)(hs:z.cells.size=t.size){n i:Nat}(hi:i<n):
  zY H F t t.dflt (fun j=>(madeCells z.cells (n*t.size))[i*t.size+j]?):=by
 refine C6 t _ fun j hj=>?_
 have aK:=Nat.mul_le_mul_right t.size (show i+1≤n by omega)
 rw[Nat.add_mul] at aK
 rw[List.getElem?_eq_getElem (by rw[so];exact hj),←W5 h hs (i:=i) hj]
 simp only[madeCells]
 rw[Array.getElem?_map,Array.getElem?_range]
 simp only[show i*t.size+j<n*t.size by omega,if_true,Option.map_some]
theorem W7 {P:Program}{M:zB}{w:World}(ok:Ok M)(hM:M.H=w.heap){nm:Nat}{t:Ty}{xs:List t.den}{us:Array Value}{e:TypeId}{s:Sem Value}{c:Nat}(aL:M.h nm=none)
  (hc:xs.length≤c) (hs:c*t.size≤us.size) (hx:∀i (h:i<xs.length),zY M.H M.G t xs[i] (fun j=>us[i*t.size+j]?))
  (hr:s.run P w=.ok (.slice (some ⟨w.heap.size,0,none⟩) xs.length c) (w.alloc (.cells us e))):
  qL P s M w (.c (.osl nm none)) [(nm,.arr true t xs)]:=by
 let C:zS:=⟨some M.H.size,xs.length,t.size,0,[]⟩
 have x:=zB.new_ext ok aL (.arr true t xs) C (.cells us e)
 have hle:=Nat.mul_le_mul_right t.size hc
 have := zB.new_ok ok aL (.arr true t xs) C (.cells us e) (by simp [C, zS.fp]) (by
  refine⟨rfl,rfl,fun _=>rfl,us,e,uk,fun h=>(by cases h),by omega,fun i hi=>?_⟩
  exact yQ x.G x.sameG t _ _ _ (fun _ _=>rfl) (hx i hi))
 refine⟨_,_,_,hr,rfl,rfl,rfl,by show M.H.push _=w.heap.push _;rw[hM],rfl,this.1,this.2,C,κset_same _ _ _,_,c,rfl,?_⟩
 refine⟨hc,0,by rw[hM],.inr (by simp),?_⟩
 simp only[Nat.zero_add]
 have:qX (M.H.push (.cells us e)) M.H.size=us.size:=by simp[qX]
 show c*t.size≤qX (M.H.push (.cells us e)) M.H.size
 rw[this];exact hs
theorem vLp {P:Program}{M:zB}{w:World}(ok:Ok M)(hM:M.H=w.heap){nm:Nat}{t:TypeId}{zs:List zG}(aL:M.h nm=none)(hz:zeroCells P t=some zs):
  qL P (Instr.alloc t true (.tuple #[])) M w (.c (.ptr nm 0)) [(nm,.box true zs)]:=by
 obtain⟨i,v,h1,h2,h3,h4,rfl⟩:=WA hz
 refine W3 ok hM aL (us:=v.cells) (e:=t) (GN M h4) ?_
 simp[Instr.alloc,zeroValue,typeInfo,h1,h2,newVar,newRow]
theorem W8 {P:Program}{M:zB}{w:World}(ok:Ok M)(hM:M.H=w.heap){nm:Nat}{t:TypeId}{x:zD}{rx:Value}{vs:List zG}(aL:M.h nm=none)(hx:zU M x rx)(hv:l9 x=some vs):
  qL P (Instr.box t rx) M w (.c (.ptr nm 0)) [(nm,.box true vs)]:=by
 refine W3 ok hM aL (us:=rx.cells) (e:=t) (GR hv hx) ?_
 simp[Instr.box,newVar,newRow]
theorem vBl {P:Program}{M:zB}{w:World}(ok:Ok M)(hM:M.H=w.heap){nm:Nat}{t:TypeId}{x:zD}{rx:Value}{vs:List zG}(aL:M.h nm=none)(hx:zU M x rx)(hv:l9 x=some vs)(m:Bool):
  qL P (Instr.box t rx) M w (.c (.ptr nm 0)) [(nm,.box (!m) vs)]:=by
 cases m with
 |false=>exact W8 ok hM aL hx hv
 |true=>
  obtain⟨rv,w',M',a1,a2,a3,a4,a5,a6,a7,a8,a9⟩:=W8 (P:=P) (t:=t) ok hM aL hx hv
  have aa:M'.h nm=some (.box true vs):=by rw[a6];exact yH _ _ _
  obtain⟨M2,b1,b2,b3,b4,b5⟩:=W1 a7 aa
  refine⟨rv,w',M2,a1,a2,a3,a4,b1.trans a5,?_,b3,a8.trans b4,a9.ext b4.ext⟩
  rw[b2,a6]
  funext n
  show yG (yG M.h nm _) nm _ n=yG M.h nm _ n
  by_cases e:n=nm
  ·subst e;rw[yH,yH];rfl
  ·rw[yJ _ _ e,yJ _ _ e,yJ _ _ e]
theorem W9 {α:Type}{n i:Nat}{a:α}(h:i<(List.replicate n a).length):(List.replicate n a)[i]=a:=by simp
theorem vA1 {P:Program}{M:zB}{w:World}(ok:Ok M)(hM:M.H=w.heap){nm n:Nat}{us:Array Value}{e:TypeId}{s:Sem Value}{c:Nat}(aL:M.h nm=none)
  (hc:n≤c) (hs:c≤us.size) (hx:∀i,i<n→us[i]? =some (.slice none 0 0))
  (hr:s.run P w=.ok (.slice (some ⟨w.heap.size,0,none⟩) n c) (w.alloc (.cells us e))):
  qL P s M w (.c (.osl nm none)) [(nm,.mat 0 (List.replicate n []))]:=by
 let C:zS:=⟨some M.H.size,n,1,0,List.replicate n (none,0)⟩
 have G3:(List.replicate n ((none,0):Option Nat×Nat)).filterMap (·.1)=[]:=by
  rw[List.filterMap_eq_nil_iff]
  intro a ha
  rw[List.eq_of_mem_replicate ha]
 have kI:C.fp=[M.H.size]:=by simp[C,zS.fp,G3]
 have := zB.new_ok ok aL (.mat 0 (List.replicate n [])) C (.cells us e) (by rw [kI]; simp) (by
  refine⟨rfl,by simp[C],rfl,by simp[C],by rw[kI];simp,us,e,uk,by simp;omega,fun i hi=>?_⟩
  have ey:i<n:=by simpa using hi
  refine⟨none,.slice none 0 0,by simp[C,ey],hx i ey,⟨rfl,by simp⟩,fun R hR=>(by cases hR)⟩)
 refine⟨_,_,_,hr,rfl,rfl,rfl,by show M.H.push _=w.heap.push _;rw[hM],rfl,this.1,this.2,C,κset_same _ _ _,_,c,rfl,?_⟩
 refine⟨hc,0,by rw[hM],.inr (by simp),?_⟩
 simp only[Nat.zero_add]
 have:qX (M.H.push (.cells us e)) M.H.size=us.size:=by simp[qX]
 show c*1≤qX (M.H.push (.cells us e)) M.H.size
 rw[this];omega
theorem vEk {P:Program}{M:zB}{w:World}(ok:Ok M)(hM:M.H=w.heap){mat:Bool}{nm:Nat}{t:TypeId}{l c v:zD}{u:zZ}{rl rc:Value}(hl:zU M l rl)(hc:zU M c rc)
  (h:yI (xA P mat nm M.h t l c) v u):qL P (Instr.makeSlice t rl rc) M w v u:=by
 unfold xA at h
 split at h
 ·rename_i e l c hu aL
  have e1:rl=.int .i64 l:=hl
  have e2:rc=.int .i64 c:=hc
  subst e1;subst e2
  cases mat with
  |true=>
   simp only[cond_true] at h
   split at h
   ·rename_i dA
    obtain⟨eI,rfl,rfl⟩:=fc h
    obtain⟨i,z,h1,h2,h3,h4,h5,h6,h7⟩:=oq dA
    simp only[Bool.and_eq_true,decide_eq_true_eq] at eI
    obtain⟨⟨⟨o1,o2⟩,o3⟩,o4⟩:=eI
    have hr:=run_make (P:=P) w t e i z hu h1 h2 .i64 .i64 l c o1 o2 (by rw[h6] at o3;rw[Int.mul_comm];omega) (by omega)
    have dM:i.size=1:=h3
    rw[dM,Nat.mul_one] at hr
    refine vA1 ok hM aL (n:=l.toNat) (c:=c.toNat) (by omega) (by rw[size_madeCells];exact Nat.le_refl _) (fun k hk=>?_) hr
    have xY:z.cells.toList=[.slice none 0 0]:=h4
    have C7:z.cells.size=1:=h7
    simp only[madeCells]
    rw[Array.getElem?_map,Array.getElem?_range]
    simp only[show k<c.toNat by omega,if_true,Option.map_some,C7,Nat.mod_one]
    rw[getElem!_pos z.cells 0 (by omega)]
    have:z.cells.toList[0]'(by simp;omega)=.slice none 0 0:=by simp only[xY,List.getElem_cons_zero]
    simpa using this
   ·exact h.elim
  |false=>
   simp only[cond_false] at h
   split at h
   ·rename_i ty dA
    obtain⟨eI,rfl,rfl⟩:=fc h
    obtain⟨i,z,h1,h2,h3,h4,h5,h6,h7⟩:=oq dA
    simp only[Bool.and_eq_true,decide_eq_true_eq] at eI
    obtain⟨⟨⟨o1,o2⟩,o3⟩,o4⟩:=eI
    have hr:=run_make (P:=P) w t e i z hu h1 h2 .i64 .i64 l c o1 o2 (by rw[h6] at o3;rw[Int.mul_comm];omega) (by omega)
    rw[h3] at hr
    refine W7 ok hM aL (c:=c.toNat) (us:=madeCells z.cells (c.toNat*ty.size)) (e:=e) (by simp;omega) (by rw[size_madeCells];exact Nat.le_refl _) (fun k hk=>?_) (by simpa using hr)
    rw[W9 hk]
    simp only[List.length_replicate] at hk
    exact W6 h4 h7 (by omega)
   ·exact h.elim
 ·exact h.elim
theorem Xa (off:Nat):∀(l:List Value) (k:Nat) (cells:Array Value),off+k+l.length≤cells.size→
  (l.zipIdx k).foldl (fun(cs:Array Value) (p:Value×Nat)=>cs.setIfInBounds (off+p.2) p.1) cells=yO cells (off+k) l
 |[],k,cells,h=>by
  apply Array.ext_getElem?
  intro j
  rw[wW h]
  simp only[List.zipIdx_nil,List.foldl_nil,List.length_nil]
  split
  ·rfl
  ·rw[if_neg (by omega)]
 |c::l,k,cells,h=>by
  simp only[List.length_cons] at h
  simp only[List.zipIdx_cons,List.foldl_cons]
  rw[Xa off l (k+1) _ (by rw[Array.size_setIfInBounds];omega)]
  apply Array.ext_getElem?
  intro j
  rw[wW (by rw[Array.size_setIfInBounds];omega),wW (by simp only[List.length_cons];omega)]
  simp only[List.length_cons]
  by_cases e:j=off+k
  ·subst e
   rw[if_pos (by omega),if_neg (by omega),if_pos (by omega)]
   simp[show off+k<cells.size by omega]
  ·have e2:(cells.setIfInBounds (off+k) c)[j]? =cells[j]? :=by rw[Array.getElem?_setIfInBounds_ne (Ne.symm e)]
   simp only[e2]
   by_cases h1:j<off+k
   ·rw[if_pos (by omega),if_pos h1]
   ·rw[if_neg (by omega),if_neg h1]
    by_cases h2:j<off+(k+1)+l.length
    ·rw[if_pos h2,if_pos (by omega)]
     obtain⟨m,hm⟩:∃m,j-(off+k)=m+1:=⟨j-(off+k)-1,by omega⟩
     rw[hm,List.getElem?_cons_succ]
     congr 1;omega
    ·rw[if_neg h2,if_neg (by omega)]
theorem Nr (place:Nat→Option (Nat×Nat))(cells:Array Value)(i:Nat)(v:Value)(rest:List (Nat×Value))(off size:Nat)(h:place i=some (off,size))(h1:v.cells.size=size)(h2:off+size≤cells.size):
  Instr.fill place cells ((i,v)::rest)=Instr.fill place (yO cells off v.cells.toList) rest:=by
 have hc:¬(v.cells.size≠size||decide (off+v.cells.size>cells.size))=true:=by
  simp only[ne_eq,bne_iff_ne,Bool.or_eq_true,decide_eq_true_eq,not_or]
  exact⟨fun hn=>hn h1,by omega⟩
 simp only[Instr.fill,h]
 rw[if_neg hc]
 congr 1
 rw[←Array.foldl_toList,Array.toList_zipIdx]
 have:=Xa off v.cells.toList 0 cells (by simp;omega)
 rw[Nat.add_zero] at this
 exact this
def uA (M:zB):(Nat×zD)→(Nat×Value)→Prop:=fun p q=>p.1=q.1∧zU M p.2 q.2
theorem Ns {M:zB}{place:Nat→Option (Nat×Nat)}:∀{parts:List (Nat×zD)} {aE:List (Nat×Value)} {cells out:List zG} {vals:Array Value},zP (zW M) cells vals.toList→
  zP (uA M) parts aE→CI place cells parts=some out→∃res,Instr.fill place vals aE=some res∧zP (zW M) out res.toList
 |[],[],cells,out,vals,hc,_,h=>by cases h;exact⟨vals,rfl,hc⟩
 |(i,v)::parts,(i',rv)::aE,cells,out,vals,hc,hp,h=>by
  obtain⟨⟨hi,hv⟩,hp⟩:=hp
  dsimp only at hi hv
  subst hi
  unfold CI at h
  split at h
  ·rename_i off size vs C8 dz
   cases hb:(Nat.beq vs.length size&&Nat.ble (off+size) cells.length) with
   |false=>rw[hb] at h;cases h
   |true=>
    rw[hb] at h
    simp only[cond_true] at h
    simp only[Bool.and_eq_true] at hb
    have b1:=Nat.eq_of_beq_eq_true hb.1
    have b2:=Nat.le_of_ble_eq_true hb.2
    split at h
    ·rename_i bG Nt
     obtain⟨p1,rfl⟩:=MZ _ _ _ _ Nt
     have dh:=GR dz hv
     have hl:=dh.length
     have pJ:=hc.length
     simp only[Array.length_toList] at hl pJ
     have yC:=M5 (yK.refl M) hc dh (off:=off) (by rw[Array.length_toList];omega)
     obtain⟨res,h1,h2⟩:=Ns yC hp h
     exact⟨res,by rw[Nr place vals i rv aE off size C8 (by omega) (by omega)];exact h1,h2⟩
    ·cases h
  ·cases h
 |[],_::_,_,_,_,_,hh,_=>hh.elim
 |_::_,[],_,_,_,_,hh,_=>hh.elim
theorem Xb {P:Program}(w:World):∀(l:List Field),l.all (fun f=>(P.info? f.type).isSome)=true→
  (l.mapM fun f=>(do pure (f.offset,←sizeOf f.type):Sem (Nat×Nat))).run P w=.ok (l.map fun f=>(f.offset,P.cellsOf f.type)) w
 |[],_=>by simp
 |f::l,h=>by
  simp only[List.all_cons,Bool.and_eq_true] at h
  obtain⟨i,hi⟩:=Option.isSome_iff_exists.1 h.1
  rw[List.mapM_cons]
  simp only[Sem.run_bind,gQ w hi,Result.andThen_ok,Sem.run_pure,Xb w l h.2,List.map_cons]
theorem yTq {P:Program}{M:zB}{w:World}(ok:Ok M)(hM:M.H=w.heap){t:TypeId}{parts:List (Nat×zD)}{aE:List (Nat×Value)}{v:zD}{u:zZ}(hp:zP (uA M) parts aE)
  (h:yI (MB P t parts) v u):qL P (Instr.build t aE.toArray) M w v u:=by
 unfold MB at h
 split at h
 ·exact h.elim
 ·rename_i zero hz
  obtain⟨i,z,h1,h2,h3,h4,rfl⟩:=WA hz
  have hzero:=GN M h4
  split at h
  ·rename_i fs hs
   obtain⟨bn,h⟩:=jV h
   split at h
   ·rename_i cells hf
    obtain⟨rfl,rfl⟩:=vP h
    have C8:(fun(j:Nat)=>(fs[j]?).map fun(f:Field)=>(f.offset,P.cellsOf f.type))=(fun(j:Nat)=>(fs.toList.map fun f=>(f.offset,P.cellsOf f.type)).toArray[j]?):=by
     funext j;simp
    rw[C8] at hf
    obtain⟨res,k1,k2⟩:=Ns hzero hp hf
    refine qL.pure ok hM (rv:=.agg res) ?_ ⟨res,rfl,k2⟩
    have hm:=Xb (P:=P) w fs.toList bn
    simp only[Instr.build,zeroValue,Sem.run_bind,MW w h1,Result.andThen_ok,h2,Sem.run_pure,run_underlying hs,Array.mapM_eq_mapM_toList,Sem.run_map,hm]
    rw[k1]
    rfl
   ·exact h.elim
  ·rename_i n e hs
   obtain⟨bn,h⟩:=jV h
   obtain⟨y,hy⟩:=Option.isSome_iff_exists.1 bn
   split at h
   ·rename_i cells hf
    obtain⟨rfl,rfl⟩:=vP h
    obtain⟨res,k1,k2⟩:=Ns hzero hp hf
    refine qL.pure ok hM (rv:=.agg res) ?_ ⟨res,rfl,k2⟩
    simp only[Instr.build,zeroValue,Sem.run_bind,MW w h1,Result.andThen_ok,h2,Sem.run_pure,run_underlying hs,gQ w hy]
    rw[k1]
    rfl
   ·exact h.elim
  ·exact h.elim
theorem qL.after {P:Program}{s:Sem Value}{M M1:zB}{w:World}{v:zD}{u1 u2:zZ}(h1:M1.h=qJ M.h u1)(st:yT M M1)(h:qL P s M1 w v u2):qL P s M w v (u1++u2):=by
 obtain⟨rv,w',M',a1,a2,a3,a4,a5,a6,a7,a8,a9⟩:=h
 exact⟨rv,w',M',a1,a2,a3,a4,a5,by rw[a6,h1,iZ],a7,st.trans a8,a9⟩
theorem wN.fresh {h0 h:Hp}(hf:wN h0 h){n:Nat}(hn:h0 n=none):h n=none:=by
 rcases hf n with e|⟨o,t,xs,e1,_⟩|⟨o,xs,e1,_⟩
 ·rw[e];exact hn
 ·rw[hn] at e1;cases e1
 ·rw[hn] at e1;cases e1
theorem Xc {t:Ty}{vs:List zG}{x:t.den}(h:CD t vs=some x):vs.length=t.size∧pz t t.dflt 0 vs=some x:=by
 unfold CD at h
 cases hb:Nat.beq vs.length t.size with
 |false=>rw[hb] at h;cases h
 |true=>rw[hb] at h;exact⟨Nat.eq_of_beq_eq_true hb,h⟩
theorem vGs {M:zB}{t:Ty}{vs:List zG}{us:List Value}{x:t.den}(h:CD t vs=some x)(hv:zP (zW M) vs us){rd:Nat→Option Value}(hr:∀i,i<us.length→rd i=us[i]?):zY M.H M.G t x rd:=by
 obtain⟨h1,h2⟩:=Xc h
 have hl:=hv.length
 refine Na t vs us t.dflt x 0 (fun j=>(fb t)[j]?) rd (C6 t _ fun _ _=>rfl) h2 hv (fun i hi=>by rw[Nat.zero_add];exact hr i hi) (fun j hj mf=>by omega)
theorem Xd {h0:Hp}{t:Ty}{n:Nat}:∀{parts:List (Nat×zD)} {aE:List (Nat×Value)} {xs out:List t.den} {vals:Array Value} {u:zZ} {M:zB},Ok M→wN h0 M.h→xs.length=n→vals.size=n*t.size→
  (∀k (h:k<xs.length),zY M.H M.G t xs[k] (fun j=>vals[k*t.size+j]?))→(∀p∈parts,p.1<n)→zP (uA M) parts aE→mb h0 t xs parts=some (out,u)→
  ∃res M',Instr.fill (fun i=>some (i*t.size,t.size)) vals aE=some res∧M'.H=M.H∧M'.h=qJ M.h u∧Ok M'∧yT M M'∧wN h0 M'.h∧out.length=n∧res.size=n*t.size∧
   (∀k (h:k<out.length),zY M'.H M'.G t out[k] (fun j=>res[k*t.size+j]?))
 |[],[],xs,out,vals,u,M,ok,hf,hx,hs,hE,_,_,h=>by
  cases h
  exact⟨vals,M,rfl,rfl,rfl,ok,yT.refl M,hf,hx,hs,hE⟩
 |(i,v)::parts,(i',rv)::aE,xs,out,vals,u,M,ok,hf,hx,hs,hE,aV,hp,h=>by
  obtain⟨⟨hi,hv⟩,hp⟩:=hp
  dsimp only at hi hv
  subst hi
  unfold mb at h
  split at h
  ·rename_i vs dz
   split at h
   ·rename_i Ni u1 uv
    split at h
    ·rename_i x sr
     split at h
     ·rename_i xs' us bu
      cases h
      have dh:=GR dz hv
      obtain⟨M1,a1,a2,a3,a4,a5,a6,a7⟩:=M8 ok hf dh uv
      have hl:=a5.length
      simp only[Array.length_toList] at hl
      have G4:=(Xc sr).1
      have ey:i<n:=aV (i,v) (List.mem_cons_self ..)
      have aK:=Nat.mul_le_mul_right t.size (show i+1≤n by omega)
      rw[Nat.add_mul] at aK
      have aB:i*t.size+rv.cells.toList.length≤vals.size:=by rw[Array.length_toList];omega
      have hE1:∀k (h:k<(xs.set i x).length),zY M1.H M1.G t (xs.set i x)[k] (fun j=>(yO vals (i*t.size) rv.cells.toList)[k*t.size+j]?):=by
       intro k hk
       rw[List.length_set] at hk
       by_cases e:k=i
       ·subst e
        rw[List.getElem_set_self]
        refine vGs sr a5 fun j hj=>?_
        rw[wW aB,if_neg (by omega),if_pos (by omega)]
        congr 1;omega
       ·rw[List.getElem_set_ne (Ne.symm e)]
        refine yQ a4.ext.G a4.ext.sameG t _ _ _ (fun j hj=>?_) (hE k hk)
        rw[wW aB,Array.length_toList]
        rcases WS (Ne.symm e) hj with h|h
        ·rw[if_pos (by omega)]
        ·rw[if_neg (by omega),if_neg (by omega)]
      obtain⟨res,M2,b1,b2,b3,b4,b5,b6,b7,b8,b9⟩:=Xd a3 a6 (by rw[List.length_set];exact hx) (by rw[fg aB];exact hs) hE1
       (fun p hp=>aV p (List.mem_cons_of_mem _ hp)) (hp.mono fun p q Xe=>⟨Xe.1,by
        obtain⟨_,hq⟩:=Xe
        exact zU.ext a4.ext hq⟩) bu
      exact⟨res,M2,by rw[Nr _ vals i rv aE (i*t.size) t.size rfl (by omega) (by omega)];exact b1,b2.trans a1,by rw[b3,a2,iZ],b4,a4.trans b5,b6,b7,b8,b9⟩
     ·cases h
    ·cases h
   ·cases h
  ·cases h
 |[],_::_,_,_,_,_,_,_,_,_,_,_,_,hh,_=>hh.elim
 |_::_,[],_,_,_,_,_,_,_,_,_,_,_,hh,_=>hh.elim
theorem Xf {P:Program}{w:World}{t e:TypeId}{n:Nat}{aE:List (Nat×Value)}{ty:Ty}{i:TypeInfo}{z:Value}{res:Array Value}(hu:P.underlying t=some (.slice e))(hi:P.info? e=some i)
  (hz:i.zero=some z) (hs:i.size=ty.size) (cP:n*P.cellsOf e≤16777216) (hf:Instr.fill (fun j=>some (j*ty.size,ty.size)) (madeCells z.cells (n*ty.size)) aE=some res):
  (Instr.buildSlice t n aE.toArray).run P w=.ok (.slice (some ⟨w.heap.size,0,none⟩) n n) (w.alloc (.cells res e)):=by
 have hc:P.cellsOf e=ty.size:=by rw[MV hi];exact hs
 rw[hc] at cP
 have h1:¬2^24<n*ty.size:=by omega
 by_cases h0:n*ty.size=0
 ·have hm:madeCells z.cells (n*ty.size)=#[]:=by rw[h0];simp[madeCells,Array.range_zero']
  rw[hm] at hf
  simp only[Instr.buildSlice,Sem.run_bind,run_underlying hu,Result.andThen_ok,gQ w hi,hc,gt_iff_lt,h1,if_false,h0,if_true,Sem.run_pure]
  simp[Array.range_zero',hf,newRow]
 ·simp only[Instr.buildSlice,Sem.run_bind,run_underlying hu,Result.andThen_ok,gQ w hi,hc,gt_iff_lt,h1,if_false,h0,Sem.run_pure,zeroValue,MW w hi,hz]
  rw[show(Array.range (n*ty.size)).map (z.cells[· %z.cells.size]!)=madeCells z.cells (n*ty.size) from rfl,hf]
  simp[newRow]
theorem Xg {parts:List (Nat×zD)}{n:Nat}(h:parts.all (fun p=>Nat.blt p.1 n)=true):∀p∈parts,p.1<n:=by
 simp only[List.all_eq_true] at h
 exact fun p hp=>GU (h p hp)
theorem yS3 {P:Program}{M:zB}{w:World}(ok:Ok M)(hM:M.H=w.heap){nm:Nat}{t e:TypeId}{n:Nat}{parts:List (Nat×zD)}{aE:List (Nat×Value)}{ty:Ty}{xs:List ty.den}{u:zZ}
  (hp:zP (uA M) parts aE) (hu:P.underlying t=some (.slice e)) (aL:M.h nm=none) (dA:gO P e=some ty) (cP:n*P.cellsOf e≤16777216) (aV:∀p∈parts,p.1<n)
  (hf:mb M.h ty (List.replicate n ty.dflt) parts=some (xs,u)):
  qL P (Instr.buildSlice t n aE.toArray) M w (.c (.osl nm none)) (u++[(nm,.arr true ty xs)]):=by
 obtain⟨i,z,h1,h2,h3,h4,h5,h6,h7⟩:=oq dA
 obtain⟨res,M',b1,b2,b3,b4,b5,b6,b7,b8,b9⟩:=Xd (n:=n) ok (wN.refl _) (by simp) (vals:=madeCells z.cells (n*ty.size)) (by rw[size_madeCells])
  (fun k hk=>by rw[W9 hk];exact W6 h4 h7 (by simpa using hk)) aV hp hf
 have hr:=Xf (P:=P) (w:=w) hu h1 h2 h3 cP b1
 refine qL.after b3 b5 (W7 b4 (b2.trans hM) (b6.fresh aL) (c:=n) (us:=res) (e:=e) (by omega) (by omega) (fun k hk=>b9 k hk) ?_)
 rw[b7];exact hr
structure ss (M:zB) (J:List Nat) (n:Nat) (rows:List (List Int)) (vals:Array Value) (rc:List (Option Nat×Nat)):Prop where
 len:rows.length=n
 size:vals.size=n
 rlen:rc.length=n
 row:∀k (h:k<rows.length),∃rb v,rc[k]? =some (rb,rows[k].length)∧vals[k]? =some v∧kG M.H rb rows[k].length v∧
  (∀R,rb=some R→∃rv er,M.H[R]? =some (.cells rv er (0,0))∧∀j (h':j<rows[k].length),rv[j]? =some (.int .i64 rows[k][j]))
 nd:(rc.filterMap (·.1)).Nodup
 of:∀R∈rc.filterMap (·.1),∃j∈J,∃C,M.κ j=some C∧R∈C.fp
 js:∀j∈J,∃ys:List Int,M.h j=some (.arr true (.int .i64) ys)
theorem ss.put {M:zB}(ok:Ok M){J:List Nat}{n:Nat}{rows:List (List Int)}{vals:Array Value}{rc:List (Option Nat×Nat)}(I:ss M J n rows vals rc){i:Nat}(hi:i<n){v:zD}{rv:Value}{r:List Int}{u:zZ}
  (hv:zU M v rv) (ht:uf M.h v=some (r,u)) (hJ:∀p∈u,p.1∉J):∃G5,ss M (J++u.map (·.1)) n (rows.set i r) (yO vals i rv.cells.toList) G5∧rv.cells.size=1∧(∀p∈u,p.2=.gone):=by
 have ey:i<rows.length:=by rw[I.len];exact hi
 have put:∀(rb:Option Nat) (J':List Nat),rv.one1=true→kG M.H rb r.length rv→(∀R,rb=some R→∃rv er,M.H[R]? =some (.cells rv er (0,0))∧∀j (h':j<r.length),rv[j]? =some (.int .i64 r[j]))→
   (∀R,rb=some R→R∉rc.filterMap (·.1))→(∀R,rb=some R→∃j∈J',∃C,M.κ j=some C∧R∈C.fp)→(∀j∈J',∃ys:List Int,M.h j=some (.arr true (.int .i64) ys))→
   ss M (J++J') n (rows.set i r) (yO vals i rv.cells.toList) (rc.set i (rb,r.length))∧rv.cells.size=1:=by
  intro rb J' h1 h2 h3 h4 h5 h6
  have aA:rv.cells=#[rv]:=by cases rv<;>first|rfl|cases h1
  obtain⟨s1,s2⟩:=GV (x:=(rb,r.length)) rc i I.nd h4
  have aB:i+rv.cells.toList.length≤vals.size:=by rw[aA,I.size];show i+1≤n;omega
  refine⟨⟨by rw[List.length_set];exact I.len,by rw[fg aB];exact I.size,by rw[List.length_set];exact I.rlen,fun k hk=>?_,s1,fun R hR=>?_,fun j hj=>?_⟩,by rw[aA];rfl⟩
  ·rw[List.length_set] at hk
   by_cases e:k=i
   ·subst e
    rw[List.getElem_set_self]
    refine⟨rb,rv,?_,?_,h2,h3⟩
    ·rw[List.getElem?_set_self (by rw[I.rlen];exact hi)]
    ·rw[wW aB,if_neg (by omega),if_pos (by rw[aA];show k<k+1;omega),aA]
     simp
   ·rw[List.getElem_set_ne (Ne.symm e)]
    obtain⟨mP,v',p1,p2,p3,p4⟩:=I.row k hk
    refine⟨mP,v',by rw[List.getElem?_set_ne (Ne.symm e)];exact p1,?_,p3,p4⟩
    rw[wW aB,aA]
    show(if k<i then vals[k]? else if k<i+1 then _ else vals[k]?)=_
    split
    ·exact p2
    ·rw[if_neg (by omega)];exact p2
  ·rcases s2 R hR with h|h
   ·obtain⟨j,hj,hC⟩:=I.of R h
    exact⟨j,List.mem_append_left _ hj,hC⟩
   ·obtain⟨j,hj,hC⟩:=h5 R h
    exact⟨j,List.mem_append_right _ hj,hC⟩
  ·rcases List.mem_append.1 hj with h|h
   ·exact I.js j h
   ·exact h6 j h
 unfold uf at ht
 split at ht
 ·rename_i jd
  split at ht
  ·rename_i ys cH
   cases ht
   obtain⟨Cj,df,lC⟩:=ok.obj jd _ cH
   obtain⟨jr,jf⟩:=CV lC
   obtain⟨r1,r2⟩:=Ng df lC hv
   have mf:∀j∈[jd],∃ys:List Int,M.h j=some (.arr true (.int .i64) ys):=fun j hj=>by
    have e:j=jd:=by simpa using hj
    rw[e];exact⟨_,cH⟩
   have:=put Cj.blk [jd] (zW.one (c:=.osl jd none) hv) r1 r2 (fun R hR hm=>?_) (fun R hR=>⟨jd,by simp,Cj,df,jL hR⟩) (fun j hj=>mf j hj)
   ·exact⟨_,this.1,this.2,by simp⟩
   ·obtain⟨j,hj,C,hC,hRC⟩:=I.of R hm
    obtain⟨ys',fe⟩:=I.js j hj
    have bc:j≠jd:=fun e=>hJ (jd,.gone) (by simp) (e▸hj)
    exact ok.disj j jd _ _ C Cj R bc fe cH rfl rfl hC df hRC (jL hR)
  ·cases ht
 ·cases ht
  have e:rv=.slice none 0 0:=hv
  have:=put none [] (by rw[e];rfl) ⟨e,rfl⟩ (fun R hR=>by cases hR) (fun R hR=>by cases hR) (fun R hR=>by cases hR) (fun j hj=>by cases hj)
  exact⟨_,by simpa using this.1,this.2,by simp⟩
 ·cases ht
theorem xZ:∀{l:List Nat},pA l=true→l.Nodup
 |[],_=>List.nodup_nil
 |a::l,h=>by
  simp only[pA,Bool.and_eq_true,Bool.not_eq_true'] at h
  refine List.nodup_cons.2 ⟨fun hm=>?_,xZ h.2⟩
  have:l.any (Nat.beq a)=true:=List.any_eq_true.2 ⟨a,hm,by simp⟩
  rw[this] at h;cases h.1
theorem Xh {M:zB}(ok:Ok M){n:Nat}:∀{parts:List (Nat×zD)} {aE:List (Nat×Value)} {J:List Nat} {rows out:List (List Int)} {vals:Array Value} {rc:List (Option Nat×Nat)} {u:zZ},ss M J n rows vals rc→
  (∀p∈parts,p.1<n)→zP (uA M) parts aE→ug M.h rows parts=some (out,u)→(J++u.map (·.1)).Nodup→
  ∃res G5,Instr.fill (fun i=>some (i*1,1)) vals aE=some res∧ss M (J++u.map (·.1)) n out res G5∧(∀p∈u,p.2=.gone)
 |[],[],J,rows,out,vals,rc,u,I,_,_,h,_=>by
  cases h
  exact⟨vals,rc,rfl,by simpa using I,by simp⟩
 |(i,v)::parts,(i',rv)::aE,J,rows,out,vals,rc,u,I,aV,hp,h,dd=>by
  obtain⟨⟨hi,hv⟩,hp⟩:=hp
  dsimp only at hi hv
  subst hi
  unfold ug at h
  split at h
  ·rename_i r u1 ht
   split at h
   ·rename_i Xi us bu
    cases h
    rw[List.map_append,←List.append_assoc] at dd
    have ey:i<n:=aV (i,v) (List.mem_cons_self ..)
    obtain ⟨G5, I', h1, hg⟩ := I.put ok ey hv ht (fun p hp hm=>by
     have:=(List.nodup_append.1 (List.nodup_append.1 dd).1).2.2 p.1 hm p.1 (List.mem_map_of_mem hp)
     exact this rfl)
    obtain⟨res,rc2,b1,b2,b3⟩:=Xh ok I' (fun p hp=>aV p (List.mem_cons_of_mem _ hp)) hp bu dd
    refine⟨res,rc2,?_,by rw[List.map_append,←List.append_assoc];exact b2,fun p hp=>?_⟩
    ·rw[Nr _ vals i rv aE (i*1) 1 rfl h1 (by rw[I.size];omega),Nat.mul_one];exact b1
    ·rcases List.mem_append.1 hp with hp|hp
     ·exact hg p hp
     ·exact b3 p hp
   ·cases h
  ·cases h
 |[],_::_,_,_,_,_,_,_,_,_,hh,_,_=>hh.elim
 |_::_,[],_,_,_,_,_,_,_,_,hh,_,_=>hh.elim
theorem Nu {j:Nat}:∀{u:zZ} {h:Hp},(∀p∈u,p.2=.gone)→j∈u.map (·.1)→qJ h u j=some .gone
 |(id,o)::u,h,hg,hj=>by
  have ho:o=.gone:=hg (id,o) (List.mem_cons_self ..)
  subst ho
  by_cases hm:j∈u.map (·.1)
  ·exact Nu (u:=u) (fun p hp=>hg p (List.mem_cons_of_mem _ hp)) hm
  ·have e:j=id:=by
    simp only[List.map_cons,List.mem_cons] at hj
    exact hj.resolve_right hm
   subst e
   show qJ (yG h j .gone) u j=_
   rw[GW]
   ·exact yH _ _ _
   ·rw[Bool.eq_false_iff]
    intro hc
    obtain⟨p,hp,hb⟩:=List.any_eq_true.1 hc
    exact hm (List.mem_map.2 ⟨p,hp,Nat.eq_of_beq_eq_true hb⟩)
theorem ya {n:Nat}{u:zZ}{h:Hp}(hn:n∉u.map (·.1)):qJ h u n=h n:=by
 refine GW h ?_
 rw[Bool.eq_false_iff]
 intro hc
 obtain⟨p,hp,hb⟩:=List.any_eq_true.1 hc
 exact hn (List.mem_map.2 ⟨p,hp,Nat.eq_of_beq_eq_true hb⟩)
theorem vEq {P:Program}{M:zB}{w:World}(ok:Ok M)(hM:M.H=w.heap){nm n c:Nat}{rows:List (List Int)}{res:Array Value}{rc:List (Option Nat×Nat)}{J:List Nat}{u:zZ}{e:TypeId}{s:Sem Value}
  (aL:M.h nm=none) (I:ss M J n rows (res.extract 0 n) rc) (hJ:∀j,j∈J→j∈u.map (·.1)) (hg:∀p∈u,p.2=.gone∧∃o,M.h p.1=some o∧o.owned=true) (hc:n≤c) (hs:c≤res.size)
  (w':World) (hw:w'.heap=w.heap.push (.cells res e)∧w'.os=w.os∧w'.tape=w.tape∧w'.output=w.output)
  (hr:s.run P w=.ok (.slice (some ⟨w.heap.size,0,none⟩) n c) w'):qL P s M w (.c (.osl nm none)) (u++[(nm,.mat 0 rows)]):=by
 let C:zS:=⟨some M.H.size,n,1,0,rc⟩
 have Nv:nm∉u.map (·.1):=fun hm=>by
  obtain⟨p,hp,e⟩:=List.mem_map.1 hm
  obtain⟨_,o,ho,_⟩:=hg p hp
  rw[e,aL] at ho;cases ho
 have aK:∀R∈rc.filterMap (·.1),∃j C,(j∈u.map (·.1))∧M.κ j=some C∧R∈C.fp:=fun R hR=>by
  obtain⟨j,hj,C,hC,hm⟩:=I.of R hR
  exact⟨j,C,hJ j hj,hC,hm⟩
 have C9:∀R∈rc.filterMap (·.1),R<M.H.size:=fun R hR=>by
  obtain⟨j,hj,C,hC,hm⟩:=I.of R hR
  obtain⟨ys,hy⟩:=I.js j hj
  exact(ok.own R ⟨j,_,C,hy,rfl,hC,hm⟩).2
 have hh:∀n',(qJ M.h (u++[(nm,.mat 0 rows)])) n'=if n'=nm then some (.mat 0 rows) else qJ M.h u n':=fun n'=>by
  rw[iZ,MY]
  by_cases e:n'=nm
  ·rw[if_pos e,e,yH]
  ·rw[if_neg e,yJ _ _ e]
 have:=zB.move_ok (M:=M) (nm:=nm) (o':=.mat 0 rows) (C':=C) (h':=qJ M.h (u++[(nm,.mat 0 rows)])) (H':=M.H.push (.cells res e)) ok (fun j=>j∈u.map (·.1)) aL
  (fun j hj=>by
   obtain⟨p,hp,e⟩:=List.mem_map.1 hj
   obtain⟨_,o,ho,fI⟩:=hg p hp
   refine⟨o,by rw[←e];exact ho,fI,?_⟩
   have bc:j≠nm:=fun e'=>Nv (by rw[←e'];exact hj)
   rw[hh,if_neg bc]
   exact Nu (fun p hp=>(hg p hp).1) hj)
  (by rw[hh,if_pos rfl]) (fun n' h1 h2=>by rw[hh,if_neg h2];exact ya h1) (by simp) (fun b hb _=>ly hb) (fun b hb=>xN (ly hb))
  (fun b hb=>by
   simp only[C,zS.fp,Option.toList_some,List.singleton_append,List.mem_cons] at hb
   rcases hb with rfl|hb
   ·exact .inl ⟨Nat.le_refl _,by simp⟩
   ·exact .inr (by
     obtain⟨j,C,h1,h2,h3⟩:=aK b hb
     exact⟨j,C,h1,h2,h3⟩))
  (fun x=>by
   refine⟨rfl,I.len.symm,rfl,by rw[I.len];exact I.rlen,?_,res,e,uk,by rw[I.len];omega,fun k hk=>?_⟩
   ·simp only[C,zS.fp,Option.toList_some,List.singleton_append]
    exact List.nodup_cons.2 ⟨fun hm=>by have:=C9 _ hm;omega,I.nd⟩
   ·obtain⟨rb,v,p1,p2,p3,p4⟩:=I.row k hk
    have Da:k<n:=by rw[←I.len];exact hk
    refine⟨rb,v,p1,?_,p3.ext x,fun R hR=>?_⟩
    ·rw[Array.getElem?_extract] at p2
     split at p2
     ·simpa using p2
     ·cases p2
    ·obtain⟨rv,er,p5,p6⟩:=p4 R hR
     refine⟨rv,er,?_,p6⟩
     have:R<M.H.size:=C9 R (List.mem_filterMap.2 ⟨_,List.mem_of_getElem? p1,hR⟩)
     show(M.H.push _)[R]? =_
     rw[ly this];exact p5)
 refine⟨_,_,_,hr,hw.2.1,hw.2.2.1,hw.2.2.2,by show M.H.push _=_;rw[hw.1,hM],rfl,this.1,this.2,C,κset_same _ _ _,_,c,rfl,?_⟩
 refine⟨hc,0,by rw[hM],.inr (by simp),?_⟩
 have:qX (M.H.push (.cells res e)) M.H.size=res.size:=by simp[qX]
 show(0+c)*1≤qX (M.H.push (.cells res e)) M.H.size
 rw[this];omega
theorem vDh {P:Program}{M:zB}{w:World}(ok:Ok M)(hM:M.H=w.heap){mat:Bool}{nm:Nat}{t:TypeId}{n:Nat}{parts:List (Nat×zD)}{aE:List (Nat×Value)}{v:zD}{u:zZ}
  (hp:zP (uA M) parts aE) (h:yI (xz P mat nm M.h t n parts) v u):qL P (Instr.buildSlice t n aE.toArray) M w v u:=by
 unfold xz at h
 split at h
 ·rename_i e hu aL
  obtain⟨cP,h⟩:=jV h
  have cP:=Nat.le_of_ble_eq_true cP
  cases mat with
  |true=>
   simp only[cond_true] at h
   split at h
   ·rename_i rows u' dA hf
    obtain⟨hb,h⟩:=jV h
    simp only[Bool.and_eq_true] at hb
    obtain⟨_,rfl,rfl⟩:=fc h
    obtain⟨i,z,h1,h2,h3,h4,h5,h6,h7⟩:=oq dA
    have xY:z.cells.toList=[.slice none 0 0]:=h4
    have C7:z.cells.size=1:=h7
    have I0:ss M [] n (List.replicate n []) (madeCells z.cells (n*1)) (List.replicate n (none,0)):=by
     have G3:(List.replicate n ((none,0):Option Nat×Nat)).filterMap (·.1)=[]:=by
      rw[List.filterMap_eq_nil_iff]
      intro a ha
      rw[List.eq_of_mem_replicate ha]
     refine⟨by simp,by rw[size_madeCells,Nat.mul_one],by simp,fun k hk=>?_,by rw[G3];exact List.nodup_nil,by rw[G3];simp,by simp⟩
     have Da:k<n:=by simpa using hk
     refine⟨none,.slice none 0 0,by simp[Da],?_,⟨rfl,by simp⟩,fun R hR=>by cases hR⟩
     simp only[madeCells,Nat.mul_one]
     rw[Array.getElem?_map,Array.getElem?_range]
     simp only[Da,if_true,Option.map_some,C7,Nat.mod_one]
     rw[getElem!_pos z.cells 0 (by omega)]
     have:z.cells.toList[0]'(by simp;omega)=.slice none 0 0:=by simp only[xY,List.getElem_cons_zero]
     simpa using this
    obtain⟨res,rc,b1,b2,b3⟩:=Xh ok I0 (Xg hb.2) hp hf (by simpa using xZ hb.1)
    rw[List.nil_append] at b2
    have hr:=Xf (P:=P) (w:=w) (ty:=.sl (.int .i64)) hu h1 h2 h3 cP b1
    have Nw:res.extract 0 n=res:=by
     have:=b2.size
     apply Array.ext_getElem?
     intro j
     rw[Array.getElem?_extract]
     split
     ·simp
     ·rw[Array.getElem?_eq_none (by omega)]
    refine vEq ok hM aL (by rw[Nw];exact b2) (fun j hj=>hj) (fun p hp=>⟨b3 p hp,?_⟩) (Nat.le_refl n) (by rw[b2.size];exact Nat.le_refl _) (w.alloc (.cells res e)) ⟨rfl,rfl,rfl,rfl⟩ hr
    obtain⟨ys,hy⟩:=b2.js p.1 (List.mem_map_of_mem hp)
    exact⟨_,hy,rfl⟩
   ·exact h.elim
  |false=>
   simp only[cond_false] at h
   split at h
   ·rename_i ty dA
    split at h
    ·rename_i xs u' hf
     obtain⟨hb,h⟩:=jV h
     obtain⟨_,rfl,rfl⟩:=fc h
     exact yS3 ok hM hp hu aL dA cP (Xg hb) hf
    ·exact h.elim
   ·exact h.elim
 ·exact h.elim
theorem Nx {H:Array Go.Obj}{F:Nat→Prop}:∀(t:Ty) (x:t.den) (rd:Nat→Option Value),zY H F t x rd→∀j,j<t.size→∃v,rd j=some v∧v.one1=true
 |.int k,x,rd,h,j,hj=>by
  simp only[Ty.size] at hj
  obtain rfl:j=0:=by omega
  exact⟨_,h,rfl⟩
 |.bool,x,rd,h,j,hj=>by
  simp only[Ty.size] at hj
  obtain rfl:j=0:=by omega
  exact⟨_,h,rfl⟩
 |.sl t,x,rd,h,j,hj=>by
  simp only[Ty.size] at hj
  obtain rfl:j=0:=by omega
  simp only[zY] at h
  obtain⟨A,n,c,h1,_⟩:=h
  exact⟨_,h1,rfl⟩
 |.pair a b,x,rd,h,j,hj=>by
  simp only[zY] at h
  simp only[Ty.size] at hj
  by_cases aV:j<a.size
  ·exact Nx a _ _ h.1 j aV
  ·have:=Nx b _ _ h.2 (j-a.size) (by omega)
   rwa [show j-a.size+a.size=j by omega] at this
def Rd (H : Array Go.Obj) (v : Value) (n size : Nat) (news : List Value) : Prop := ∃ A c, v = .slice A n c ∧ news.length = n * size ∧ (∀ u ∈ news, u.one1 = true) ∧ (match A with
 |none=>n=0
 |some a=>n=0∨a.spot=none∧∀j u,news[j]? =some u→yC H a.block (a.off+j)=some u)
theorem Rd.first {P:Program}{H:Array Go.Obj}{v:Value}{n size:Nat}{news:List Value}(h:Rd H v n size news)(w:World)(hw:w.heap=H):(Builtin.firstCells size n v).run P w=.ok news.toArray w:=by
 obtain⟨A,c,rfl,hl,_,h⟩:=h
 cases A with
 |none=>
  have h0:n=0:=h
  subst h0
  have:news=[]:=List.eq_nil_of_length_eq_zero (by simpa using hl)
  subst this
  exact run_firstCells_none w size 0 0 c
 |some a=>
  rcases h with h0|⟨hs,h⟩
  ·subst h0
   have:news=[]:=List.eq_nil_of_length_eq_zero (by simpa using hl)
   subst this
   simp[Builtin.firstCells,loadCells,loadCellsFrom]
  ·obtain⟨B,o,sp⟩:=a
   cases hs
   exact run_firstCells_some w size n ⟨B,o,none⟩ n c news hl (fun j u hu=>by rw[Addr.add_lit,pF,hw];exact h j u hu)
theorem Ny {H:Array Go.Obj}{F:Nat→Prop}{t:Ty}{ys:List t.den}{B o c:Nat}(hc:ys.length≤c)(h:∀i (hi:i<ys.length),zY H F t ys[i] (fun j=>yC H B (o+i*t.size+j))):
  ∃news,Rd H (.slice (some ⟨B,o,none⟩) ys.length c) ys.length t.size news∧∀i (hi:i<ys.length),zY H F t ys[i] (fun j=>news[i*t.size+j]?):=by
 have tot:∀k,k<ys.length*t.size→∃v,yC H B (o+k)=some v∧v.one1=true:=by
  intro k hk
  have hi:k/t.size<ys.length:=Nat.div_lt_of_lt_mul (by rw[Nat.mul_comm];exact hk)
  obtain⟨v,h1,h2⟩:=Nx t _ _ (h _ hi) (k%t.size) (Nat.mod_lt _ t.size_pos)
  refine⟨v,?_,h2⟩
  rw[Nat.add_assoc,Nat.mul_comm,Nat.div_add_mod] at h1
  exact h1
 refine⟨(List.range (ys.length*t.size)).map fun k=>(yC H B (o+k)).getD undef,⟨_,c,rfl,by simp,fun u hu=>?_,.inr ⟨rfl,fun j u hu=>?_⟩⟩,fun i hi=>?_⟩
 ·obtain⟨k,hk,rfl⟩:=List.mem_map.1 hu
  obtain⟨v,h1,h2⟩:=tot k (List.mem_range.1 hk)
  rw[h1];exact h2
 ·have hj:j<ys.length*t.size:=by
   rcases Nat.lt_or_ge j (ys.length*t.size) with h|h
   ·exact h
   ·rw[List.getElem?_eq_none (by simpa using h)] at hu;cases hu
  obtain⟨v,h1,h2⟩:=tot j hj
  simp only[List.getElem?_map,List.getElem?_range hj,Option.map_some,h1,Option.getD_some,Option.some.injEq] at hu
  rw[←hu];exact h1
 ·refine yQ (fun _ h=>h) (fun _ _=>rfl) t _ _ _ (fun j hj=>?_) (h i hi)
  have aK:=Nat.mul_le_mul_right t.size (show i+1≤ys.length by omega)
  rw[Nat.add_mul] at aK
  have hk:i*t.size+j<ys.length*t.size:=by omega
  obtain⟨v,h1,h2⟩:=tot _ hk
  simp only[List.getElem?_map,List.getElem?_range hk,Option.map_some,h1,Option.getD_some]
  rw[Nat.add_assoc];exact h1.symm
theorem Db {H:Array Go.Obj}{F:Nat→Prop}{t:Ty}{A:Option Addr}{c:Nat}:∃news,Rd H (.slice A 0 c) 0 t.size news∧∀i (hi:i<([]:List t.den).length),zY H F t ([]:List t.den)[i] (fun j=>news[i*t.size+j]?):=
 ⟨[],⟨A,c,rfl,by simp,by simp,by cases A with
  |none=>rfl
  |some a=>exact .inl rfl⟩,fun i hi=>by simp at hi⟩
theorem Nz {H:Array Go.Obj}{F:Nat→Prop}{t:Ty}{ys:List t.den}{v:Value}(h:zY H F (.sl t) ys (fun _=>some v)):
  ∃news,Rd H v ys.length t.size news∧∀i (hi:i<ys.length),zY H F t ys[i] (fun j=>news[i*t.size+j]?):=by
 simp only[zY,Option.some.injEq] at h
 obtain⟨A,n,c,rfl,rfl,hc,h⟩:=h
 rcases h with⟨rfl,_⟩|⟨B,o,rfl,hB,hE⟩
 ·exact Db
 ·exact Ny hc hE
theorem uB {M:zB}{own:Bool}{t:Ty}{xs:List t.den}{C:zS}{id:Nat}{r:Option (Nat×Nat)}{v:Value}(hC:M.κ id=some C)(hO:yR M (.arr own t xs) C)(hv:zW M (.osl id r) v):
  ∃news,Rd M.H v (ga xs r).length t.size news∧∀i (hi:i<(ga xs r).length),zY M.H M.G t (ga xs r)[i] (fun j=>news[i*t.size+j]?):=by
 obtain⟨h1,h2,h3,h4⟩:=hO
 obtain⟨C',ax,hv⟩:=hv
 rw[hC] at ax;cases ax
 have key:∀lo n,lo+n≤C.len→wH M.H C lo n v→∃news,Rd M.H v (yB xs lo n).length t.size news∧∀i (hi:i<(yB xs lo n).length),zY M.H M.G t (yB xs lo n)[i] (fun j=>news[i*t.size+j]?):=by
  intro lo n hn hS
  obtain⟨A,c,rfl,hS⟩:=hS
  have hl:=xS (xs:=xs) (lo:=lo) (n:=n) (by omega)
  by_cases h0:n=0
  ·subst h0
   have e:yB xs lo 0=[]:=by simp[yB]
   rw[e];exact Db
  ·cases hB:C.blk with
   |none=>rw[hB] at hS;omega
   |some B=>
    rw[hB] at hS h4
    obtain⟨hc,a,rfl,ha,_⟩:=hS
    obtain⟨vals,e,h5,h6,h7,h8⟩:=h4
    have kL:a=lo*C.sz:=by rcases ha with ha|ha<;>omega
    have := Ny (H := M.H) (F := M.G) (ys := yB xs lo n) (B := B) (o := a) (c := c) (by omega) (fun i hi=>by
     obtain⟨bS,e1⟩:=GS hi
     rw[e1]
     refine yQ (fun _ h=>h) (fun _ _=>rfl) t _ _ _ (fun j hj=>?_) (h8 (lo+i) bS)
     rw[kL,h2,←Nat.add_mul]
     simp only[yC,h5])
    obtain⟨news,k1,k2⟩:=this
    rw[hl] at k1
    exact⟨news,by rw[hl];exact k1,k2⟩
 cases r with
 |none=>
  have:=key 0 C.len (by omega) hv
  rw[h1,WG] at this
  exact this
 |some p=>exact key p.1 p.2 hv.1 hv.2.1
theorem ot {P:Program}{w:World}{t e:TypeId}{i:TypeInfo}{A:Option Addr}{sLen sCap n size:Nat}{x:Value}{news:List Value}(T:TypeId)(hu:P.underlying t=some (.slice e))(hi:P.info? e=some i)(hs:i.size=size)
  (hx : Rd w.heap x n size news) (aX : sLen + n ≤ sCap) (w' : World) (hw:match A with
   |none=>w'=w
   |some a=>(storeCells (a.add (sLen*size)) news).run P w=.ok () w'):
  (Builtin.append_ #[t,t] T #[.slice A sLen sCap,x]).run P w=.ok (.slice A (sLen+n) sCap) w':=by
 have hf:=hx.first (P:=P) w rfl
 obtain⟨X,c,rfl,_⟩:=hx
 subst hs
 cases A with
 |none=>
  subst hw
  simp[Builtin.append_,run_underlying hu,sizeOf,typeInfo,hi,Builtin.lenOf,aX,hf]
 |some a=>simp[Builtin.append_,run_underlying hu,sizeOf,typeInfo,hi,Builtin.lenOf,aX,hf,hw]
theorem NA {P:Program}{w:World}{t e:TypeId}{i:TypeInfo}{z:Value}{A:Option Addr}{sLen sCap n size:Nat}{x:Value}{olds news:List Value}(T:TypeId)(hu:P.underlying t=some (.slice e))(hi:P.info? e=some i)(hz:i.zero=some z)
  (hs:i.size=size) (hb:Rd w.heap (.slice A sLen sCap) sLen size olds) (hx:Rd w.heap x n size news) (hg:sCap<sLen+n) (h46:(sLen+n)*i.bytes≤140737488355328) (aah:sLen+n≤140737488355328):
  (Builtin.append_ #[t,t] T #[.slice A sLen sCap,x]).run P w=
   .ok (.slice (some ⟨w.heap.size,0,none⟩) (sLen+n) (grownCap w (sLen+n) sCap e)) (w.drew.alloc (.cells (olds.toArray++news.toArray++Builtin.zeroCells z.cells (grownCap w (sLen+n) sCap e-(sLen+n))) e)):=by
 have hf:=hx.first (P:=P) w.drew rfl
 have hfo:=hb.first (P:=P) w.drew rfl
 obtain⟨X,c,rfl,_⟩:=hx
 subst hs
 have hn:¬(sLen+n≤sCap):=by omega
 have NB:¬(9223372036854775807<((sLen:Int)+(n:Int))):=by omega
 have NC:¬(281474976710656<Builtin.nextslicecap (sLen+n) sCap*i.bytes):=by
  have h1:=Nat.mul_le_mul_right i.bytes (nextslicecap_le hg)
  rw[Nat.mul_assoc] at h1
  omega
 simp[Builtin.append_,run_underlying hu,sizeOf,typeInfo,zeroValue,hi,hz,Builtin.lenOf,hn,NB,NC,Question.forced,hf,hfo,newRow,grownCap]
 congr 2
 apply Array.ext'
 simp[List.append_assoc]
theorem yc (z:Array Value)(n:Nat):(Builtin.zeroCells z n).size=n*z.size:=by simp[Builtin.zeroCells]
theorem ND {H:Array Go.Obj}{F:Nat→Prop}{t:Ty}{xs ys:List t.den}{olds news:List Value}(hl:olds.length=xs.length*t.size)(hx:∀i (h:i<xs.length),zY H F t xs[i] (fun j=>olds[i*t.size+j]?))
  (hy:∀i (h:i<ys.length),zY H F t ys[i] (fun j=>news[i*t.size+j]?)):∀i (h:i<(xs++ys).length),zY H F t (xs++ys)[i] (fun j=>(olds++news)[i*t.size+j]?):=by
 intro i hi
 by_cases h:i<xs.length
 ·rw[List.getElem_append_left h]
  refine yQ (fun _ h=>h) (fun _ _=>rfl) t _ _ _ (fun j hj=>?_) (hx i h)
  have:=Nat.mul_le_mul_right t.size (show i+1≤xs.length by omega)
  rw[Nat.add_mul] at this
  rw[List.getElem?_append_left (by omega)]
 ·rw[List.getElem_append_right (by omega)]
  refine yQ (fun _ h=>h) (fun _ _=>rfl) t _ _ _ (fun j hj=>?_) (hy (i-xs.length) (by rw[List.length_append] at hi;omega))
  have:=Nat.mul_le_mul_right t.size (show xs.length≤i by omega)
  rw[List.getElem?_append_right (by omega),hl]
  congr 1
  rw[Nat.sub_mul];omega
def Dc (M:zB)(w:World)(v:zD)(u:zZ)(rv:Value)(w':World):Prop:=
 ∃M',w'.os=w.os∧w'.tape=w.tape∧w'.output=w.output∧M'.H=w'.heap∧M'.h=qJ M.h u∧Ok M'∧yT M M'∧zU M' v rv
theorem Dc.runs {P:Program}{s:Sem Value}{M:zB}{w w':World}{v:zD}{u:zZ}{rv:Value}(h:Dc M w v u rv w')(hr:s.run P w=.ok rv w'):qL P s M w v u:=by
 obtain⟨M',h⟩:=h
 exact⟨_,_,M',hr,h⟩
theorem Xj {M:zB}{w:World}(ok:Ok M)(hM:M.H=w.heap){nm:Nat}{t:Ty}{zs:List t.den}{us:Array Value}{e:TypeId}{c:Nat}{u:zZ}(aL:M.h nm=none)
  (hg:∀p∈u,p.2=.gone∧∃o,M.h p.1=some o∧o.owned=true) (hc:zs.length≤c) (hs:c*t.size≤us.size) (hx:∀i (h:i<zs.length),zY M.H M.G t zs[i] (fun j=>us[i*t.size+j]?))
  {w':World} (hw:w'.heap=w.heap.push (.cells us e)∧w'.os=w.os∧w'.tape=w.tape∧w'.output=w.output):
  Dc M w (.c (.osl nm none)) (u++[(nm,.arr true t zs)]) (.slice (some ⟨w.heap.size,0,none⟩) zs.length c) w':=by
 let C:zS:=⟨some M.H.size,zs.length,t.size,0,[]⟩
 have Nv:nm∉u.map (·.1):=fun hm=>by
  obtain⟨p,hp,e⟩:=List.mem_map.1 hm
  obtain⟨_,o,ho,_⟩:=hg p hp
  rw[e,aL] at ho;cases ho
 have hh:∀n',(qJ M.h (u++[(nm,.arr true t zs)])) n'=if n'=nm then some (.arr true t zs) else qJ M.h u n':=fun n'=>by
  rw[iZ,MY]
  by_cases e:n'=nm
  ·rw[if_pos e,e,yH]
  ·rw[if_neg e,yJ _ _ e]
 have hle:=Nat.mul_le_mul_right t.size hc
 have:=zB.move_ok (M:=M) (nm:=nm) (o':=.arr true t zs) (C':=C) (h':=qJ M.h (u++[(nm,.arr true t zs)])) (H':=M.H.push (.cells us e)) ok (fun j=>j∈u.map (·.1)) aL
  (fun j hj=>by
   obtain⟨p,hp,e⟩:=List.mem_map.1 hj
   obtain⟨_,o,ho,fI⟩:=hg p hp
   refine⟨o,by rw[←e];exact ho,fI,?_⟩
   have bc:j≠nm:=fun e'=>Nv (by rw[←e'];exact hj)
   rw[hh,if_neg bc]
   exact Nu (fun p hp=>(hg p hp).1) hj)
  (by rw[hh,if_pos rfl]) (fun n' h1 h2=>by rw[hh,if_neg h2];exact ya h1) (by simp) (fun b hb _=>ly hb) (fun b hb=>xN (ly hb))
  (fun b hb=>by
   simp only[C,zS.fp,Option.toList_some,List.filterMap_nil,List.append_nil,List.mem_singleton] at hb
   subst hb
   exact .inl ⟨Nat.le_refl _,by simp⟩)
  (fun x=>⟨rfl,rfl,fun _=>rfl,us,e,uk,fun h=>(by cases h),by omega,fun i hi=>yQ x.G x.sameG t _ _ _ (fun _ _=>rfl) (hx i hi)⟩)
 refine⟨_,hw.2.1,hw.2.2.1,hw.2.2.2,by show M.H.push _=_;rw[hw.1,hM],rfl,this.1,this.2,C,κset_same _ _ _,_,c,rfl,?_⟩
 refine⟨hc,0,by rw[hM],.inr (by simp),?_⟩
 have:qX (M.H.push (.cells us e)) M.H.size=us.size:=by simp[qX]
 show(0+c)*t.size≤qX (M.H.push (.cells us e)) M.H.size
 rw[this,Nat.zero_add];exact hs
theorem Xk {P:Program}{M:zB}{w:World}(ok:Ok M)(hM:M.H=w.heap){nm:Nat}{t:Ty}{zs:List t.den}{us:Array Value}{e:TypeId}{s:Sem Value}{c:Nat}{u:zZ}(aL:M.h nm=none)
  (hg:∀p∈u,p.2=.gone∧∃o,M.h p.1=some o∧o.owned=true) (hc:zs.length≤c) (hs:c*t.size≤us.size) (hx:∀i (h:i<zs.length),zY M.H M.G t zs[i] (fun j=>us[i*t.size+j]?))
  {w':World} (hr:s.run P w=.ok (.slice (some ⟨w.heap.size,0,none⟩) zs.length c) w') (hw:w'.heap=w.heap.push (.cells us e)∧w'.os=w.os∧w'.tape=w.tape∧w'.output=w.output):
  qL P s M w (.c (.osl nm none)) (u++[(nm,.arr true t zs)]):=
 (Xj ok hM aL hg hc hs hx hw).runs hr
theorem Xl {M:zB}{w:World}(ok:Ok M)(hM:M.H=w.heap){id nm:Nat}{t:Ty}{fG zs:List t.den}{C:zS}{H':Array Go.Obj}{c:Nat}{A:Option Addr}{w':World}
  (aa:M.h id=some (.arr true t fG)) (hC:M.κ id=some C) (aL:M.h nm=none) (dM:H'.size=M.H.size) (hH:∀b,b∉C.fp→H'[b]? =M.H[b]?) (cG:∀b,qX H' b=qX M.H b)
  (hx:∀M',yK M M'→M'.H=H'→M'.G=M.G→match C.blk with
   |none=>zs=[]
   |some B=>∃vals e,H'[B]? =some (.cells vals e (0,0))∧zs.length*t.size≤vals.size∧∀i (h:i<zs.length),zY M'.H M'.G t zs[i] (fun j=>vals[i*t.size+j]?))
  (hA:match C.blk with
   |none=>A=none∧zs.length=0∧c=0
   |some B=>zs.length≤c∧∃a,A=some ⟨B,a,none⟩∧(c=0∨a=0)∧c*t.size≤qX M.H B)
  (hw:w'.heap=H'∧w'.os=w.os∧w'.tape=w.tape∧w'.output=w.output):
  Dc M w (.c (.osl nm none)) [(id,.gone),(nm,.arr true t zs)] (.slice A zs.length c) w':=by
 obtain⟨C0,ou,hO⟩:=ok.obj id _ aa
 rw[hC] at ou;cases ou
 obtain⟨fr,ff⟩:=CV hO
 have bc:id≠nm:=fun e=>by rw[e,aL] at aa;cases aa
 let C':zS:=⟨C.blk,zs.length,t.size,0,[]⟩
 have hh:∀n',(qJ M.h [(id,.gone),(nm,.arr true t zs)]) n'=if n'=nm then some (.arr true t zs) else if n'=id then some .gone else M.h n':=fun n'=>by
  show(yG (yG M.h id .gone) nm _) n'=_
  by_cases e:n'=nm
  ·rw[if_pos e,e,yH]
  ·rw[if_neg e,yJ _ _ e]
   by_cases e2:n'=id
   ·rw[if_pos e2,e2,yH]
   ·rw[if_neg e2,yJ _ _ e2]
 have:=zB.move_ok (M:=M) (nm:=nm) (o':=.arr true t zs) (C':=C') (h':=qJ M.h [(id,.gone),(nm,.arr true t zs)]) (H':=H') ok (fun j=>j=id) aL
  (fun j hj=>⟨.arr true t fG,by rw[hj];exact aa,rfl,by rw[hh,hj,if_neg bc,if_pos rfl]⟩)
  (by rw[hh,if_pos rfl]) (fun n' h1 h2=>by rw[hh,if_neg h2,if_neg h1]) (by omega) (fun b hb hn=>hH b (hn id C rfl hC)) (fun b _=>cG b)
  (fun b hb=>.inr ⟨id,C,rfl,hC,by
   simp only[C',zS.fp,List.filterMap_nil,List.append_nil] at hb
   rw[ff];exact hb⟩)
  (fun x=>by
   refine⟨rfl,rfl,fun _=>rfl,?_⟩
   have:=hx _ x rfl rfl
   show match C.blk with
    |none=>_
    |some B=>_
   cases hB:C.blk with
   |none=>rw[hB] at this;exact this
   |some B=>
    rw[hB] at this
    obtain⟨vals,e,h1,h2,h3⟩:=this
    exact⟨vals,e,h1,fun h=>(by cases h),h2,h3⟩)
 refine⟨_,hw.2.1,hw.2.2.1,hw.2.2.2,by rw[hw.1];rfl,rfl,this.1,this.2,C',κset_same _ _ _,_,c,rfl,?_⟩
 show match C.blk with
  |none=>_
  |some B=>_
 cases hB:C.blk with
 |none=>rw[hB] at hA;exact hA
 |some B=>
  rw[hB] at hA
  obtain⟨h1,a,h2,h3,h4⟩:=hA
  refine⟨h1,a,h2,by simpa using h3,?_⟩
  show(0+c)*t.size≤qX H' B
  rw[cG,Nat.zero_add];exact h4
theorem NF {P:Program}{M:zB}{w:World}(ok:Ok M)(hM:M.H=w.heap){id nm:Nat}{t:Ty}{fG zs:List t.den}{C:zS}{H':Array Go.Obj}{s:Sem Value}{c:Nat}{A:Option Addr}{w':World}
  (aa:M.h id=some (.arr true t fG)) (hC:M.κ id=some C) (aL:M.h nm=none) (dM:H'.size=M.H.size) (hH:∀b,b∉C.fp→H'[b]? =M.H[b]?) (cG:∀b,qX H' b=qX M.H b)
  (hx:∀M',yK M M'→M'.H=H'→M'.G=M.G→match C.blk with
   |none=>zs=[]
   |some B=>∃vals e,H'[B]? =some (.cells vals e (0,0))∧zs.length*t.size≤vals.size∧∀i (h:i<zs.length),zY M'.H M'.G t zs[i] (fun j=>vals[i*t.size+j]?))
  (hA:match C.blk with
   |none=>A=none∧zs.length=0∧c=0
   |some B=>zs.length≤c∧∃a,A=some ⟨B,a,none⟩∧(c=0∨a=0)∧c*t.size≤qX M.H B)
  (hw:w'.heap=H'∧w'.os=w.os∧w'.tape=w.tape∧w'.output=w.output) (hr:s.run P w=.ok (.slice A zs.length c) w'):
  qL P s M w (.c (.osl nm none)) [(id,.gone),(nm,.arr true t zs)]:=
 (Xl ok hM aa hC aL dM hH cG hx hA hw).runs hr
theorem Dd {n:Nat}{b:Nat}(h:(Nat.ble (n*b) 140737488355328&&Nat.ble n 140737488355328)=true):n*b≤140737488355328∧n≤140737488355328:=by
 rw[Bool.and_eq_true] at h
 exact⟨Nat.le_of_ble_eq_true h.1,Nat.le_of_ble_eq_true h.2⟩
theorem NG {H H':Array Go.Obj}{F F':Nat→Prop}:∀(t:Ty) (x:t.den) (rd:Nat→Option Value),t.flat=true→zY H F t x rd→zY H' F' t x rd
 |.int k,n,rd,_,h=>h
 |.bool,n,rd,_,h=>h
 |.sl t,xs,rd,hf,_=>by cases hf
 |.pair a b,p,rd,hf,h=>by
  simp only[Ty.flat,Bool.and_eq_true] at hf
  exact⟨NG a _ _ hf.1 h.1,NG b _ _ hf.2 h.2⟩
theorem Xm {M:zB}{sh:Bool}{s:Ty}{xs:List s.den}{v:Value}(hs:(sh||s.flat)=true)(hv:zY M.H (bif sh then M.G else M.F) (.sl s) xs (fun _=>some v)):
  ∃news,Rd M.H v xs.length s.size news∧∀i (hi:i<xs.length),zY M.H M.G s xs[i] (fun j=>news[i*s.size+j]?):=by
 obtain⟨news,h1,h2⟩:=Nz hv
 refine⟨news,h1,fun i hi=>?_⟩
 cases sh with
 |true=>exact h2 i hi
 |false=>exact NG _ _ _ hs (h2 i hi)
theorem Xn {M:zB}(ok:Ok M){t:Ty}{x:zG}{ys:List t.den}{u:zZ}{v:Value}(hv:zW M x v)(h:pB M.h t x=some (ys,u)):
  u=[]∧∃news,Rd M.H v ys.length t.size news∧∀i (hi:i<ys.length),zY M.H M.G t ys[i] (fun j=>news[i*t.size+j]?):=by
 unfold pB at h
 split at h
 ·cases h
  have e:v=.slice none 0 0:=hv
  subst e
  exact⟨rfl,Db⟩
 ·rename_i sh s xs
  cases hs:(sh||s.flat) with
  |false=>rw[hs] at h;cases h
  |true=>
   rw[hs] at h
   simp only[cond_true,Option.map_eq_some_iff,Prod.mk.injEq] at h
   obtain⟨zs,hz,rfl,rfl⟩:=h
   obtain⟨e,hz⟩:=ja hz
   subst e
   subst hz
   exact⟨rfl,Xm hs hv⟩
 ·rename_i sh s xs
  cases hs:(sh||s.flat) with
  |false=>rw[hs] at h;cases h
  |true=>
   rw[hs] at h
   simp only[cond_true,Option.map_eq_some_iff,Prod.mk.injEq] at h
   obtain⟨zs,hz,rfl,rfl⟩:=h
   obtain⟨e,hz⟩:=ja hz
   subst e
   subst hz
   exact⟨rfl,Xm hs hv.2⟩
 ·rename_i id r
  split at h
  ·rename_i own s xs aa
   simp only[Option.map_eq_some_iff,Prod.mk.injEq] at h
   obtain⟨zs,hz,rfl,rfl⟩:=h
   obtain⟨e,hz⟩:=ja hz
   subst e
   subst hz
   obtain⟨C,hC,hO⟩:=ok.obj _ _ aa
   exact⟨rfl,uB hC hO hv⟩
  ·cases h
 ·cases h
theorem yWp {P:Program}{M:zB}{w:World}(ok:Ok M)(hM:M.H=w.heap){nm:Nat}{t e T:TypeId}{ty:Ty}{x:Value}{ys:List ty.den}{news:List Value}(hu:P.underlying t=some (.slice e))(dA:gO P e=some ty)(aL:M.h nm=none)
  (hx:Rd M.H x ys.length ty.size news) (hE:∀i (hi:i<ys.length),zY M.H M.G ty ys[i] (fun j=>news[i*ty.size+j]?)) (aX:ys.length*P.bytesOf e≤140737488355328∧ys.length≤140737488355328):
  qL P (Builtin.append_ #[t,t] T #[.slice none 0 0,x]) M w (.c (.osl nm none)) [(nm,.arr true ty ys)]:=by
 obtain⟨i,z,h1,h2,h3,h4,h5,h6,h7⟩:=oq dA
 by_cases h0:ys.length=0
 ·have hy:ys=[]:=List.eq_nil_of_length_eq_zero h0
  subst hy
  have hr:=ot (P:=P) (w:=w) (A:=none) (sLen:=0) (sCap:=0) T hu h1 h3 (by rw[←hM];exact hx) (by simp) w rfl
  let C:zS:=⟨none,0,ty.size,0,[]⟩
  have:=zB.move_ok (M:=M) (nm:=nm) (o':=.arr true ty []) (C':=C) (h':=yG M.h nm (.arr true ty [])) (H':=M.H) ok (fun _=>False) aL (fun _ h=>h.elim) (yH _ _ _)
   (fun n' _ h2=>yJ _ _ h2) (Nat.le_refl _) (fun _ _ _=>rfl) (fun _ _=>rfl) (fun b hb=>by simp[C,zS.fp] at hb) (fun x=>⟨rfl,rfl,fun _=>rfl,rfl⟩)
  exact⟨_,_,M.move nm C (yG M.h nm (.arr true ty [])) M.H,hr,rfl,rfl,rfl,hM,rfl,this.1,this.2,C,κset_same _ _ _,_,_,rfl,rfl,rfl,rfl⟩
 ·have hb:Rd w.heap (.slice none 0 0) 0 ty.size []:=⟨none,0,rfl,by simp,by simp,rfl⟩
  have hr:=NA (P:=P) (w:=w) T hu h1 h2 h3 hb (by rw[←hM];exact hx) (by omega) (by rw[h6] at aX;rw[Nat.zero_add];exact aX.1) (by omega)
  simp only[Nat.zero_add] at hr
  have hlen:news.length=ys.length*ty.size:=hx.choose_spec.choose_spec.2.1
  have iY:=grownCap_ge w ys.length 0 e
  refine Xk (u:=[]) ok hM aL (by simp) iY ?_ (fun i hi=>?_) hr ⟨rfl,rfl,rfl,rfl⟩
  ·simp only[Array.size_append,List.size_toArray,List.length_nil,yc,h7,hlen,Nat.zero_add,←Nat.add_mul]
   exact Nat.le_of_eq (by congr 1;omega)
  ·refine yQ (fun _ h=>h) (fun _ _=>rfl) ty _ _ _ (fun j hj=>?_) (hE i hi)
   have:=Nat.mul_le_mul_right ty.size (show i+1≤ys.length by omega)
   rw[Nat.add_mul] at this
   rw[Array.getElem?_append_left (by simp;omega)]
   simp
theorem NH {P:Program}{M:zB}{w:World}(ok:Ok M)(hM:M.H=w.heap){id nm:Nat}{t e T:TypeId}{ty:Ty}{x b:Value}{fG ys:List ty.den}{r:Option (Nat×Nat)}{news:List Value}(hu:P.underlying t=some (.slice e))(dA:gO P e=some ty)
  (aL:M.h nm=none) (aa:M.h id=some (.arr true ty fG)) (hb:zW M (.osl id r) b) (G6:match r with|none=>True|some (lo,_)=>lo=0)
  (hx:Rd M.H x ys.length ty.size news) (hE:∀i (hi:i<ys.length),zY M.H M.G ty ys[i] (fun j=>news[i*ty.size+j]?))
  (aX:((ga fG r).length+ys.length)*P.bytesOf e≤140737488355328∧(ga fG r).length+ys.length≤140737488355328):
  qL P (Builtin.append_ #[t,t] T #[b,x]) M w (.c (.osl nm none)) [(id,.gone),(nm,.arr true ty (ga fG r++ys))]:=by
 obtain⟨i,z,h1,h2,h3,h4,h5,h6,h7⟩:=oq dA
 obtain⟨C,hC,hO⟩:=ok.obj id _ aa
 obtain⟨olds,ho,hEo⟩:=uB hC hO hb
 have hlen:news.length=ys.length*ty.size:=hx.choose_spec.choose_spec.2.1
 have kO:olds.length=(ga fG r).length*ty.size:=ho.choose_spec.choose_spec.2.1
 obtain⟨C',ax,hS⟩:=hb
 rw[hC] at ax;cases ax
 have mh:∃n,(ga fG r).length=n∧wH M.H C 0 n b:=by
  cases r with
  |none=>exact⟨C.len,by rw[hO.1];rfl,hS⟩
  |some p=>
   obtain⟨lo,n⟩:=p
   have:lo=0:=G6
   subst this
   exact⟨n,xS (by have:=hO.1;have:=hS.1;omega),hS.2.1⟩
 obtain⟨n,hn,A,sCap,rfl,mh⟩:=mh
 rw[hn] at kO ho aX
 have bn:=ND (H:=M.H) (F:=M.G) (t:=ty) (xs:=ga fG r) (ys:=ys) (olds:=olds) (news:=news) (by rw[hn];exact kO) hEo hE
 have oz:(ga fG r++ys).length=n+ys.length:=by rw[List.length_append,hn]
 by_cases cQ:n+ys.length≤sCap
 ·
  cases hB:C.blk with
  |none=>
   rw[hB] at mh
   obtain⟨rfl,rfl,rfl⟩:=mh
   have hr:=ot (P:=P) (w:=w) (A:=none) (sLen:=0) (sCap:=0) T hu h1 h3 (by rw[←hM];exact hx) cQ w rfl
   rw[←oz] at hr
   refine NF (s:=Builtin.append_ #[t,t] T #[.slice none 0 0,x]) (H':=M.H) ok hM aa hC aL rfl (fun _ _=>rfl) (fun _=>rfl) (fun M' _ _ _=>?_) ?_ ⟨hM.symm,rfl,rfl,rfl⟩ hr
   ·rw[hB]
    exact List.eq_nil_of_length_eq_zero (by omega)
   ·rw[hB]
    exact⟨rfl,by omega,rfl⟩
  |some B=>
   rw[hB] at mh
   obtain⟨hc,a,rfl,ha,hs⟩:=mh
   obtain⟨k1,k2,k3,k4⟩:=hO
   rw[hB] at k4
   obtain⟨vals,ev,k5,k6,k7,k8⟩:=k4
   rw[Nat.zero_mul] at ha
   rw[Nat.zero_add,k2] at hs
   have cG:qX M.H B=vals.size:=by simp only[qX,k5]
   rw[cG] at hs
   have gU:w.heap[B]? =some (.cells vals ev (0,0)):=by rw[←hM];exact k5
   by_cases h0:sCap=0
   ·
    have G7:n=0:=by omega
    have hy0:ys.length=0:=by omega
    have hr := ot (P := P) (w := w) (A := some ⟨B, a, none⟩) (sLen := n) (sCap := sCap) T hu h1 h3 (by rw [← hM]; exact hx) cQ w (by
     have:news=[]:=List.eq_nil_of_length_eq_zero (by rw[hlen,hy0,Nat.zero_mul])
     rw[this];rfl)
    rw[←oz] at hr
    have xY:ga fG r++ys=[]:=List.eq_nil_of_length_eq_zero (by omega)
    refine NF (s:=Builtin.append_ #[t,t] T #[.slice (some ⟨B,a,none⟩) n sCap,x]) (H':=M.H) ok hM aa hC aL rfl (fun _ _=>rfl) (fun _=>rfl) (fun M' _ _ _=>?_) ?_ ⟨hM.symm,rfl,rfl,rfl⟩ hr
    ·rw[hB]
     refine⟨vals,ev,k5,by rw[xY];simp,fun i hi=>?_⟩
     rw[xY] at hi;simp at hi
    ·rw[hB]
     exact⟨by omega,a,rfl,.inl h0,by rw[h0];simp⟩
   ·have kM:a=0:=by rcases ha with ha|ha<;>omega
    subst kM
    have hle:=Nat.mul_le_mul_right ty.size cQ
    rw[Nat.add_mul] at hle
    have aB:n*ty.size+news.length≤vals.size:=by omega
    have eA:=run_storeCells_at (P:=P) B (n*ty.size) ev news 0 vals w gU (by simpa using aB) (fun v hv=>um (hx.choose_spec.choose_spec.2.2.1 v hv))
    simp only[Nat.add_zero] at eA
    have hr:=ot (P:=P) (w:=w) (A:=some ⟨B,0,none⟩) (sLen:=n) (sCap:=sCap) T hu h1 h3 (by rw[←hM];exact hx) cQ (w.setRow B (yO vals (n*ty.size) news)) (by show(storeCells (Addr.add ⟨B,0,none⟩ (n*ty.size)) news).run P w=_;rw[Addr.add_lit,Nat.zero_add];exact eA)
    rw[←oz] at hr
    obtain⟨f1,f2,f3,f4⟩:=me gU (new:=yO vals (n*ty.size) news) (fg aB)
    refine NF (s:=Builtin.append_ #[t,t] T #[.slice (some ⟨B,0,none⟩) n sCap,x]) (H':=(w.setRow B (yO vals (n*ty.size) news)).heap) ok hM aa hC aL (by rw[hM];exact f1)
     (fun b hb=>by rw[hM];exact f3 b fun e=>hb (e▸jL hB)) (fun b=>by rw[hM];exact f4 b) (fun M' xt hH hG=>?_) ?_ ⟨rfl,rfl,rfl,rfl⟩ hr
    ·rw[hB]
     refine⟨_,ev,f2,by rw[oz,fg aB,Nat.add_mul];omega,fun i hi=>?_⟩
     refine yQ xt.G xt.sameG ty _ _ _ (fun j hj=>?_) (bn i hi)
     have aK:=Nat.mul_le_mul_right ty.size (show i+1≤n+ys.length by omega)
     rw[Nat.add_mul,Nat.add_mul] at aK
     rw[wW aB]
     by_cases aV:i*ty.size+j<n*ty.size
     ·rw[if_pos aV,List.getElem?_append_left (by omega)]
      obtain⟨A',c',e1,_,_,hold⟩:=ho
      simp only[Value.slice.injEq] at e1
      obtain⟨rfl,_,rfl⟩:=e1
      rcases hold with G7|⟨_,hold⟩
      ·rw[G7] at aV;omega
      ·have uC:i*ty.size+j<olds.length:=by omega
       have:=hold (i*ty.size+j) olds[i*ty.size+j] (List.getElem?_eq_getElem uC)
       rw[List.getElem?_eq_getElem uC,←this]
       simp only[yC,k5,Nat.zero_add]
     ·rw[if_neg aV,if_pos (by omega),List.getElem?_append_right (by omega),kO]
    ·rw[hB]
     exact⟨by omega,0,rfl,.inr rfl,by rw[cG];exact hs⟩
 ·
  have hr:=NA (P:=P) (w:=w) T hu h1 h2 h3 (by rw[←hM];exact ho) (by rw[←hM];exact hx) (by omega) (by rw[h6] at aX;exact aX.1) aX.2
  have iY:=grownCap_ge w (n+ys.length) sCap e
  rw[←oz] at hr iY
  refine Xk (s:=Builtin.append_ #[t,t] T #[.slice A n sCap,x]) (u:=[(id,.gone)]) ok hM aL (fun p hp=>?_) iY ?_ (fun i hi=>?_) hr ⟨rfl,rfl,rfl,rfl⟩
  ·simp only[List.mem_singleton] at hp
   subst hp
   exact⟨rfl,_,aa,rfl⟩
  ·simp only[Array.size_append,List.size_toArray,yc,h7,hlen,kO,←Nat.add_mul]
   exact Nat.le_of_eq (by congr 1;omega)
  ·refine yQ (fun _ h=>h) (fun _ _=>rfl) ty _ _ _ (fun j hj=>?_) (bn i hi)
   have:=Nat.mul_le_mul_right ty.size (show i+1≤n+ys.length by omega)
   rw[Nat.add_mul,Nat.add_mul] at this
   rw[Array.getElem?_append_left (by simp;omega)]
   simp
def yd (H:Array Go.Obj)(row:List Int)(m:Option (Option Nat×Nat))(c:Option Value):Prop:=∃rb v,m=some (rb,row.length)∧c=some v∧kG H rb row.length v∧
 (∀R,rb=some R→∃rv er,H[R]? =some (.cells rv er (0,0))∧∀j (h':j<row.length),rv[j]? =some (.int .i64 row[j]))
theorem Xo {M:zB}{ver:Nat}{xs:List (List Int)}{C:zS}(h:yR M (.mat ver xs) C):C.len=xs.length∧C.sz=1∧C.rows.length=xs.length∧C.fp.Nodup∧
  ∃cI:List Value,cI.length=xs.length∧(∀k (h:k<xs.length),yd M.H xs[k] C.rows[k]? cI[k]?)∧
   (match C.blk with
    |none=>xs=[]
    |some B=>∃vals e,M.H[B]? =some (.cells vals e (0,0))∧xs.length≤vals.size∧∀k,k<xs.length→vals[k]? =cI[k]?):=by
 obtain⟨h1,h2,h3,h4,h5,h6⟩:=h
 refine⟨h2,h3,h4,h5,?_⟩
 cases hB:C.blk with
 |none=>
  rw[hB] at h6
  subst h6
  exact⟨[],rfl,fun k hk=>by simp at hk,rfl⟩
 |some B=>
  rw[hB] at h6
  obtain⟨vals,e,h7,h8,h9⟩:=h6
  have hg:∀k,k<xs.length→(vals.toList.take xs.length)[k]? =vals[k]? :=fun k hk=>by
   rw[List.getElem?_take,if_pos hk];simp
  refine⟨vals.toList.take xs.length,by simp;omega,fun k hk=>?_,vals,e,h7,h8,fun k hk=>(hg k hk).symm⟩
  obtain⟨rb,v,k1,k2,k3,k4⟩:=h9 k hk
  exact⟨rb,v,k1,by rw[hg k hk];exact k2,k3,k4⟩
theorem yd.one {H:Array Go.Obj}{row:List Int}{m:Option (Option Nat×Nat)}{v:Value}(h:yd H row m (some v)):v.one1=true:=by
 obtain⟨rb,v',_,e,h,_⟩:=h
 cases e
 exact h.one
theorem Xp {M:zB}{xs:List (List Int)}{C:zS}{id:Nat}{v:Value}(hC:M.κ id=some C)(hv:zW M (.osl id none) v){cI:List Value}(hl:cI.length=xs.length)(hlen:C.len=xs.length)(dM:C.sz=1)
  (ca : ∀ u ∈ cI, u.one1 = true) (hb:match C.blk with
    |none=>xs=[]
    |some B=>∃vals e,M.H[B]? =some (.cells vals e (0,0))∧xs.length≤vals.size∧∀k,k<xs.length→vals[k]? =cI[k]?):Rd M.H v xs.length 1 cI:=by
 obtain⟨C',ax,A,c,rfl,hS⟩:=hv
 rw[hC] at ax;cases ax
 rw[hlen]
 refine⟨A,c,rfl,by omega,ca,?_⟩
 cases hB:C.blk with
 |none=>
  rw[hB] at hS
  obtain⟨rfl,h0,_⟩:=hS
  show xs.length=0
  omega
 |some B=>
  rw[hB] at hS hb
  obtain⟨hc,a,rfl,ha,_⟩:=hS
  obtain⟨vals,e,h1,h2,h3⟩:=hb
  by_cases h0:xs.length=0
  ·exact .inl h0
  ·refine .inr ⟨rfl,fun j u hu=>?_⟩
   have kM:a=0:=by rcases ha with ha|ha<;>omega
   subst kM
   have hj:j<xs.length:=by
    rcases Nat.lt_or_ge j xs.length with h|h
    ·exact h
    ·rw[List.getElem?_eq_none (by omega)] at hu;cases hu
   simp only[yC,h1,Nat.zero_add]
   rw[h3 j hj];exact hu
theorem Xq {C D:zS}(hC:C.fp.Nodup)(hD:D.fp.Nodup)(dP:∀b,b∈C.fp→b∉D.fp):((C.rows++D.rows).filterMap (·.1)).Nodup:=by
 rw[List.filterMap_append]
 refine List.nodup_append.2 ⟨(List.nodup_append.1 hC).2.1,(List.nodup_append.1 hD).2.1,fun a ha b hb e=>?_⟩
 subst e
 exact dP a (by simp only[zS.fp,List.mem_append];exact .inr ha) (by simp only[zS.fp,List.mem_append];exact .inr hb)
theorem G8 {P:Program}{M:zB}{w w':World}(ok:Ok M)(hM:M.H=w.heap){id jd nm:Nat}{v1 v2:Nat}{xs ys:List (List Int)}{C Cj C':zS}{s:Sem Value}{A:Option Addr}{c:Nat}{H':Array Go.Obj}
  (aa:M.h id=some (.mat v1 xs)) (cH:M.h jd=some (.mat v2 ys)) (bc:id≠jd) (hC:M.κ id=some C) (df:M.κ jd=some Cj) (aL:M.h nm=none) (dM:M.H.size≤H'.size)
  (hH:∀b,b<M.H.size→C.blk≠some b→H'[b]? =M.H[b]?) (cG:∀b,b<M.H.size→qX H' b=qX M.H b)
  (hl:C'.len=(xs++ys).length) (De:C'.sz=1) (Df:C'.ver=0) (kP:C'.rows=C.rows++Cj.rows) (Dg:∀B,C'.blk=some B→(M.H.size≤B∧B<H'.size)∨C.blk=some B)
  (hx:match C'.blk with
   |none=>xs++ys=[]
   |some B=>∃vals e,H'[B]? =some (.cells vals e (0,0))∧(xs++ys).length≤vals.size∧∀k (h:k<(xs++ys).length),yd M.H (xs++ys)[k] (C.rows++Cj.rows)[k]? vals[k]?)
  (hA:wH H' C' 0 C'.len (.slice A (xs++ys).length c))
  (hw:w'.heap=H'∧w'.os=w.os∧w'.tape=w.tape∧w'.output=w.output) (hr:s.run P w=.ok (.slice A (xs++ys).length c) w'):
  qL P s M w (.c (.osl nm none)) [(id,.gone),(jd,.gone),(nm,.mat 0 (xs++ys))]:=by
 obtain⟨C0,ou,hO⟩:=ok.obj id _ aa
 rw[hC] at ou;cases ou
 obtain⟨C1,gi,lC⟩:=ok.obj jd _ cH
 rw[df] at gi;cases gi
 have NI:=hO.2.2.2.2.1
 have Xr:=lC.2.2.2.2.1
 have dP:∀b,b∈C.fp→b∉Cj.fp:=fun b h1 h2=>ok.disj id jd _ _ C Cj b bc aa cH rfl rfl hC df h1 h2
 have G9:id≠nm:=fun e=>by rw[e,aL] at aa;cases aa
 have hnj:jd≠nm:=fun e=>by rw[e,aL] at cH;cases cH
 have hh:∀n',(qJ M.h [(id,.gone),(jd,.gone),(nm,.mat 0 (xs++ys))]) n'=if n'=nm then some (.mat 0 (xs++ys)) else if n'=jd then some .gone else if n'=id then some .gone else M.h n':=fun n'=>by
  show(yG (yG (yG M.h id .gone) jd .gone) nm _) n'=_
  by_cases e:n'=nm
  ·rw[if_pos e,e,yH]
  ·rw[if_neg e,yJ _ _ e]
   by_cases e2:n'=jd
   ·rw[if_pos e2,e2,yH]
   ·rw[if_neg e2,yJ _ _ e2]
    by_cases e3:n'=id
    ·rw[if_pos e3,e3,yH]
    ·rw[if_neg e3,yJ _ _ e3]
 have Dh:∀b∈C.fp,b<M.H.size:=fun b hb=>(ok.own b ⟨id,_,C,aa,rfl,hC,hb⟩).2
 have Dl:∀b∈Cj.fp,b<M.H.size:=fun b hb=>(ok.own b ⟨jd,_,Cj,cH,rfl,df,hb⟩).2
 have dC:∀R∈(C.rows++Cj.rows).filterMap (·.1),R∈C.fp∧C.blk≠some R∨R∈Cj.fp:=fun R hR=>by
  rw[List.filterMap_append] at hR
  rcases List.mem_append.1 hR with h|h
  ·refine .inl ⟨by simp only[zS.fp,List.mem_append];exact .inr h,fun e=>?_⟩
   exact(List.nodup_append.1 NI).2.2 R (by simp[e]) R h rfl
  ·exact .inr (by simp only[zS.fp,List.mem_append];exact .inr h)
 have su:∀R∈(C.rows++Cj.rows).filterMap (·.1),R<M.H.size∧C.blk≠some R:=fun R hR=>by
  rcases dC R hR with⟨h1,h2⟩|h
  ·exact⟨Dh R h1,h2⟩
  ·exact⟨Dl R h,fun e=>dP R (jL e) h⟩
 have nd':C'.fp.Nodup:=by
  simp only[zS.fp,kP]
  cases hB:C'.blk with
  |none=>simpa using Xq NI Xr dP
  |some B=>
   simp only[Option.toList_some,List.singleton_append]
   refine List.nodup_cons.2 ⟨fun hm=>?_,Xq NI Xr dP⟩
   have:=su B hm
   rcases Dg B hB with h|h
   ·omega
   ·exact this.2 h
 have:=zB.move_ok (M:=M) (nm:=nm) (o':=.mat 0 (xs++ys)) (C':=C') (h':=qJ M.h [(id,.gone),(jd,.gone),(nm,.mat 0 (xs++ys))]) (H':=H') ok (fun j=>j=id∨j=jd) aL
  (fun j hj=>by
   rcases hj with rfl|rfl
   ·exact⟨_,aa,rfl,by rw[hh,if_neg G9,if_neg bc,if_pos rfl]⟩
   ·exact⟨_,cH,rfl,by rw[hh,if_neg hnj,if_pos rfl]⟩)
  (by rw[hh,if_pos rfl]) (fun n' h1 h2=>by rw[hh,if_neg h2,if_neg (fun e=>h1 (.inr e)),if_neg (fun e=>h1 (.inl e))]) dM
  (fun b hb hn=>hH b hb fun e=>hn id C (.inl rfl) hC (jL e)) cG
  (fun b hb=>by
   simp only[zS.fp,kP,List.mem_append] at hb
   rcases hb with hb|hb
   ·cases hB:C'.blk with
    |none=>rw[hB] at hb;simp at hb
    |some B=>
     rw[hB] at hb
     simp at hb
     subst hb
     rcases Dg b hB with h|h
     ·exact .inl h
     ·exact .inr ⟨id,C,.inl rfl,hC,jL h⟩
   ·rcases dC b hb with h|h
    ·exact .inr ⟨id,C,.inl rfl,hC,h.1⟩
    ·exact .inr ⟨jd,Cj,.inr rfl,df,h⟩)
  (fun x=>by
   refine⟨Df,hl,De,?_,nd',?_⟩
   ·rw[kP,List.length_append,hO.2.2.2.1,lC.2.2.2.1,List.length_append]
   ·cases hB:C'.blk with
    |none=>rw[hB] at hx;exact hx
    |some B=>
     rw[hB] at hx
     obtain⟨vals,e,k1,k2,k3⟩:=hx
     refine⟨vals,e,k1,k2,fun k hk=>?_⟩
     obtain⟨rb,v,q1,q2,q3,q4⟩:=k3 k hk
     refine⟨rb,v,by rw[kP];exact q1,q2,q3.ext x,fun R hR=>?_⟩
     obtain⟨rv,er,q5,q6⟩:=q4 R hR
     have Xs:=su R (List.mem_filterMap.2 ⟨_,List.mem_of_getElem? q1,hR⟩)
     exact⟨rv,er,by show H'[R]? =_;rw[hH R Xs.1 Xs.2];exact q5,q6⟩)
 exact⟨_,_,M.move nm C' (qJ M.h [(id,.gone),(jd,.gone),(nm,.mat 0 (xs++ys))]) H',hr,hw.2.1,hw.2.2.1,hw.2.2.2,hw.1.symm,rfl,this.1,this.2,C',κset_same _ _ _,by rw[hl] at hA⊢;exact hA⟩
theorem NJ {H:Array Go.Obj}{xs:List (List Int)}{rc:List (Option Nat×Nat)}{cI:List Value}(hl:cI.length=xs.length)(h:∀k (h:k<xs.length),yd H xs[k] rc[k]? cI[k]?):∀u∈cI,u.one1=true:=by
 intro u hu
 obtain⟨k,hk,rfl⟩:=List.getElem_of_mem hu
 have:=h k (by omega)
 rw[List.getElem?_eq_getElem hk] at this
 exact this.one
theorem vEs {P:Program}{M:zB}{w:World}(ok:Ok M)(hM:M.H=w.heap){id jd nm:Nat}{v1 v2:Nat}{t e T:TypeId}{x b:Value}{xs ys:List (List Int)}(hu:P.underlying t=some (.slice e))(dA:gO P e=some (.sl (.int .i64)))
  (aL:M.h nm=none) (aa:M.h id=some (.mat v1 xs)) (cH:M.h jd=some (.mat v2 ys)) (bc:id≠jd) (hb:zW M (.osl id none) b) (hx:zW M (.osl jd none) x)
  (aX:(xs.length+ys.length)*P.bytesOf e≤140737488355328∧xs.length+ys.length≤140737488355328):
  qL P (Builtin.append_ #[t,t] T #[b,x]) M w (.c (.osl nm none)) [(id,.gone),(jd,.gone),(nm,.mat 0 (xs++ys))]:=by
 obtain⟨i,z,h1,h2,h3,h4,h5,h6,h7⟩:=oq dA
 obtain⟨C,hC,hO⟩:=ok.obj id _ aa
 obtain⟨Cj,df,lC⟩:=ok.obj jd _ cH
 obtain⟨a1,a2,a3,a4,olds,a5,a6,a7⟩:=Xo hO
 obtain⟨b1,b2,b3,b4,news,b5,b6,b7⟩:=Xo lC
 have ho:=Xp hC hb a5 a1 a2 (NJ a5 a6) a7
 have hn:=Xp df hx b5 b1 b2 (NJ b5 b6) b7
 have oz:(xs++ys).length=xs.length+ys.length:=List.length_append
 have ca:=NJ b5 b6
 have bn:∀k (h:k<(xs++ys).length),yd M.H (xs++ys)[k] (C.rows++Cj.rows)[k]? (olds++news)[k]? :=by
  intro k hk
  by_cases aV:k<xs.length
  ·rw[List.getElem_append_left aV,List.getElem?_append_left (by omega),List.getElem?_append_left (by omega)]
   exact a6 k aV
  ·rw[List.getElem_append_right (by omega),List.getElem?_append_right (by omega),List.getElem?_append_right (by omega),a3,a5]
   exact b6 _ (by omega)
 obtain⟨C',ax,A,sCap,rfl,mh⟩:=hb
 rw[hC] at ax;cases ax
 rw[a1] at ho mh
 have pN:i.size=1:=h3
 have C7:z.cells.size=1:=h7
 by_cases cQ:xs.length+ys.length≤sCap
 ·cases hB:C.blk with
  |none=>
   rw[hB] at mh
   obtain⟨rfl,h0,rfl⟩:=mh
   have hr:=ot (P:=P) (w:=w) (A:=none) (sLen:=xs.length) (sCap:=0) T hu h1 pN (by rw[←hM];exact hn) cQ w rfl
   rw[←oz] at hr
   have cd:xs++ys=[]:=List.eq_nil_of_length_eq_zero (by omega)
   rw[a1]
   refine G8 (C':=⟨none,(xs++ys).length,1,0,C.rows++Cj.rows⟩) (H':=M.H) ok hM aa cH bc hC df aL (Nat.le_refl _) (fun _ _ _=>rfl) (fun _ _=>rfl) rfl rfl rfl rfl (fun B hB=>by cases hB) cd ⟨none,0,rfl,rfl,(by show(xs++ys).length=0;omega),rfl⟩ ⟨hM.symm,rfl,rfl,rfl⟩ hr
  |some B=>
   rw[hB] at mh a7
   obtain⟨hc,a,rfl,ha,hs⟩:=mh
   obtain⟨vals,ev,k5,k6,k7⟩:=a7
   rw[Nat.zero_mul] at ha
   rw[Nat.zero_add,a2,Nat.mul_one] at hs
   have cG:qX M.H B=vals.size:=by simp only[qX,k5]
   rw[cG] at hs
   have gU:w.heap[B]? =some (.cells vals ev (0,0)):=by rw[←hM];exact k5
   by_cases h0:sCap=0
   ·have hr := ot (P := P) (w := w) (A := some ⟨B, a, none⟩) (sLen := xs.length) (sCap := sCap) T hu h1 pN (by rw [← hM]; exact hn) cQ w (by
     have:news=[]:=List.eq_nil_of_length_eq_zero (by omega)
     rw[this];rfl)
    rw[←oz] at hr
    have cd:xs++ys=[]:=List.eq_nil_of_length_eq_zero (by omega)
    rw[a1]
    refine G8 (C':=⟨some B,(xs++ys).length,1,0,C.rows++Cj.rows⟩) (H':=M.H) ok hM aa cH bc hC df aL (Nat.le_refl _) (fun _ _ _=>rfl) (fun _ _=>rfl) rfl rfl rfl rfl (fun B' im=>.inr (by cases im;exact hB))
     ⟨vals,ev,k5,by rw[cd];simp,fun k hk=>by rw[cd] at hk;simp at hk⟩ ⟨_,sCap,rfl,(by show(xs++ys).length≤sCap;omega),a,rfl,.inl h0,by rw[h0];simp⟩ ⟨hM.symm,rfl,rfl,rfl⟩ hr
   ·have kM:a=0:=by rcases ha with ha|ha<;>omega
    subst kM
    have aB:xs.length+news.length≤vals.size:=by omega
    have eA:=run_storeCells_at (P:=P) B xs.length ev news 0 vals w gU (by simpa using aB) (fun v hv=>um (ca v hv))
    simp only[Nat.add_zero] at eA
    have hr:=ot (P:=P) (w:=w) (A:=some ⟨B,0,none⟩) (sLen:=xs.length) (sCap:=sCap) T hu h1 pN (by rw[←hM];exact hn) cQ (w.setRow B (yO vals xs.length news))
     (by show(storeCells (Addr.add ⟨B,0,none⟩ (xs.length*1)) news).run P w=_;rw[Addr.add_lit,Nat.zero_add,Nat.mul_one];exact eA)
    rw[←oz] at hr
    obtain⟨f1,f2,f3,f4⟩:=me gU (new:=yO vals xs.length news) (fg aB)
    rw[a1]
    refine G8 (C':=⟨some B,(xs++ys).length,1,0,C.rows++Cj.rows⟩) (H':=(w.setRow B (yO vals xs.length news)).heap) ok hM aa cH bc hC df aL (by rw[hM,f1];exact Nat.le_refl _) (fun b hb hn=>by rw[hM];exact f3 b fun e=>hn (e▸hB))
     (fun b _=>by rw[hM];exact f4 b) rfl rfl rfl rfl (fun B' im=>.inr (by cases im;exact hB)) ⟨_,ev,f2,by rw[fg aB];omega,fun k hk=>?_⟩ ⟨_,sCap,rfl,(by show(xs++ys).length≤sCap;omega),0,rfl,.inr (by simp),by show(0+sCap)*1≤qX _ B;rw[f4,←hM,cG];omega⟩ ⟨rfl,rfl,rfl,rfl⟩ hr
    have:=bn k hk
    rw[wW aB]
    by_cases aV:k<xs.length
    ·rw[if_pos aV,k7 k aV]
     rw[List.getElem?_append_left (l₁:=olds) (by omega)] at this
     exact this
    ·rw[if_neg aV,if_pos (by omega)]
     rw[List.getElem?_append_right (l₁:=olds) (by omega),a5] at this
     exact this
 ·have hr:=NA (P:=P) (w:=w) T hu h1 h2 pN (by rw[←hM];exact ho) (by rw[←hM];exact hn) (by omega) (by rw[h6] at aX;exact aX.1) aX.2
  have iY:=grownCap_ge w (xs.length+ys.length) sCap e
  rw[←oz] at hr iY
  generalize lA:olds.toArray++news.toArray++Builtin.zeroCells z.cells (grownCap w (xs++ys).length sCap e-(xs++ys).length)=us at hr
  have NK:us.size=grownCap w (xs++ys).length sCap e:=by
   rw[←lA]
   simp only[Array.size_append,List.size_toArray,yc,C7]
   omega
  have NL:∀k,k<(xs++ys).length→us[k]? =(olds++news)[k]? :=fun k hk=>by
   rw[←lA,Array.getElem?_append_left (by simp;omega)]
   simp
  have hbz:∀us:Array Value,qX (M.H.push (.cells us e)) M.H.size=us.size:=fun us=>by simp[qX]
  rw[a1]
  refine G8 (C':=⟨some M.H.size,(xs++ys).length,1,0,C.rows++Cj.rows⟩) (H':=M.H.push (.cells us e)) (w':=w.drew.alloc (.cells us e)) ok hM aa cH bc hC df aL (by simp) (fun b hb _=>ly hb) (fun b hb=>xN (ly hb)) rfl rfl rfl rfl
   (fun B' im=>.inl (by cases im;exact⟨Nat.le_refl _,by simp⟩)) ⟨us,e,uk,by omega,fun k hk=>?_⟩ ⟨_,_,rfl,iY,0,by rw[hM],.inr (by simp),(by rw[hbz,NK];show(0+_)*1≤_;omega)⟩ ⟨(by rw[hM];rfl),rfl,rfl,rfl⟩ hr
  rw[NL k hk]
  exact bn k hk
theorem uD {c:Bool}{s:yE}{v:zD}{u:zZ}(h:yI (bif c then s else .stuck) v u):c=true∧yI s v u:=by
 cases c with
 |true=>exact⟨rfl,h⟩
 |false=>exact h.elim
theorem Xt {c:Bool}{a b:yE}{v:zD}{u:zZ}(h:yI (bif c then a else b) v u):(c=true∧yI a v u)∨(c=false∧yI b v u):=by
 cases c with
 |true=>exact .inl ⟨rfl,h⟩
 |false=>exact .inr ⟨rfl,h⟩
theorem Xu {z:Value}{t:Ty}(h:z.cells.toList=fb t)(hs:z.cells.size=t.size){n i j:Nat}(hj:j<t.size)(hi:i<n):(Builtin.zeroCells z.cells n).toList[i*t.size+j]? =(fb t)[j]? :=by
 have aK:=Nat.mul_le_mul_right t.size (show i+1≤n by omega)
 rw[Nat.add_mul] at aK
 rw[List.getElem?_eq_getElem (l:=fb t) (by rw[so];exact hj),←W5 h hs (i:=i) hj]
 simp only[Builtin.zeroCells,Array.getElem?_toList]
 rw[Array.getElem?_map,Array.getElem?_range,if_pos (by rw[hs];omega)]
 rfl
theorem vA7 {z:Value}{t:Ty}(h:z.cells.toList=fb t)(hs:z.cells.size=t.size){n:Nat}:∀v∈(Builtin.zeroCells z.cells n).toList,v.one1=true:=by
 intro v hv
 have hz:∀u∈fb t,u.one1=true:=by
  clear h hs hv
  induction t with
  |pair a b uy uz=>
   intro u hu
   rcases List.mem_append.1 hu with hu|hu
   ·exact uy u hu
   ·exact uz u hu
  |_=>
   intro u hu
   rw[List.mem_singleton.1 hu];rfl
 obtain⟨k,hk,rfl⟩:=List.getElem_of_mem hv
 have mQ:k<n*t.size:=by rw[Array.length_toList,yc,hs] at hk;exact hk
 have h0:=t.size_pos
 have := Xu h hs (n := n) (i := k / t.size) (j := k % t.size) (Nat.mod_lt _ h0) (by
  rw[Nat.div_lt_iff_lt_mul h0];exact mQ)
 rw[Nat.div_add_mod' k t.size,List.getElem?_eq_getElem hk,List.getElem?_eq_getElem (by rw[so];exact Nat.mod_lt _ h0),Option.some.injEq] at this
 rw[this]
 exact hz _ (List.getElem_mem _)
theorem NM {P:Program}{M:zB}{w:World}(ok:Ok M)(hM:M.H=w.heap){id nm n':Nat}{t:Ty}{fG zs:List t.den}{C:zS}{H':Array Go.Obj}{s:Sem Value}{c:Nat}{A:Option Addr}{w':World}
  (aa:M.h id=some (.arr true t fG)) (hC:M.κ id=some C) (aL:M.h nm=none) (dM:H'.size=M.H.size) (hH:∀b,b∉C.fp→H'[b]? =M.H[b]?) (cG:∀b,qX H' b=qX M.H b)
  (hx:∀M',yK M M'→M'.H=H'→M'.G=M.G→match C.blk with
   |none=>zs=[]
   |some B=>∃vals e,H'[B]? =some (.cells vals e (0,0))∧zs.length*t.size≤vals.size∧∀i (h:i<zs.length),zY M'.H M'.G t zs[i] (fun j=>vals[i*t.size+j]?))
  (hn : n' ≤ zs.length) (hc : zs.length ≤ c) (hA:match C.blk with
   |none=>A=none∧n'=0∧c=0
   |some B=>∃a,A=some ⟨B,a,none⟩∧(c=0∨a=0)∧c*t.size≤qX M.H B)
  (hw:w'.heap=H'∧w'.os=w.os∧w'.tape=w.tape∧w'.output=w.output) (hr:s.run P w=.ok (.slice A n' c) w'):
  qL P s M w (.c (.osl nm (some (0,n')))) [(id,.gone),(nm,.arr true t zs)]:=by
 obtain⟨C0,ou,hO⟩:=ok.obj id _ aa
 rw[hC] at ou;cases ou
 obtain⟨fr,ff⟩:=CV hO
 have bc:id≠nm:=fun e=>by rw[e,aL] at aa;cases aa
 let C':zS:=⟨C.blk,zs.length,t.size,0,[]⟩
 have hh:∀n',(qJ M.h [(id,.gone),(nm,.arr true t zs)]) n'=if n'=nm then some (.arr true t zs) else if n'=id then some .gone else M.h n':=fun n'=>by
  show(yG (yG M.h id .gone) nm _) n'=_
  by_cases e:n'=nm
  ·rw[if_pos e,e,yH]
  ·rw[if_neg e,yJ _ _ e]
   by_cases e2:n'=id
   ·rw[if_pos e2,e2,yH]
   ·rw[if_neg e2,yJ _ _ e2]
 have:=zB.move_ok (M:=M) (nm:=nm) (o':=.arr true t zs) (C':=C') (h':=qJ M.h [(id,.gone),(nm,.arr true t zs)]) (H':=H') ok (fun j=>j=id) aL
  (fun j hj=>⟨.arr true t fG,by rw[hj];exact aa,rfl,by rw[hh,hj,if_neg bc,if_pos rfl]⟩)
  (by rw[hh,if_pos rfl]) (fun n' h1 h2=>by rw[hh,if_neg h2,if_neg h1]) (by omega) (fun b hb hn=>hH b (hn id C rfl hC)) (fun b _=>cG b)
  (fun b hb=>.inr ⟨id,C,rfl,hC,by
   simp only[C',zS.fp,List.filterMap_nil,List.append_nil] at hb
   rw[ff];exact hb⟩)
  (fun x=>by
   refine⟨rfl,rfl,fun _=>rfl,?_⟩
   have:=hx _ x rfl rfl
   show match C.blk with
    |none=>_
    |some B=>_
   cases hB:C.blk with
   |none=>rw[hB] at this;exact this
   |some B=>
    rw[hB] at this
    obtain⟨vals,e,h1,h2,h3⟩:=this
    exact⟨vals,e,h1,fun h=>(by cases h),h2,h3⟩)
 refine⟨_,_,_,hr,hw.2.1,hw.2.2.1,hw.2.2.2,by rw[hw.1];rfl,rfl,this.1,this.2,C',κset_same _ _ _,by show 0+n'≤zs.length;omega,⟨_,c,rfl,?_⟩,_,_,_,rfl,by show zs.length≤0+c;omega⟩
 show match C.blk with
  |none=>_
  |some B=>_
 cases hB:C.blk with
 |none=>rw[hB] at hA;exact hA
 |some B=>
  rw[hB] at hA
  obtain⟨a,h2,h3,h4⟩:=hA
  refine⟨by omega,a,h2,by simpa using h3,?_⟩
  show(0+c)*t.size≤qX H' B
  rw[cG,Nat.zero_add];exact h4
theorem yX2 {P:Program}{M:zB}{w:World}(ok:Ok M)(hM:M.H=w.heap){id nm i j m:Nat}{t e T:TypeId}{ty:Ty}{x b:Value}{xs:List ty.den}(hu:P.underlying t=some (.slice e))(dA:gO P e=some ty)
  (aL:M.h nm=none) (aa:M.h id=some (.arr true ty xs)) (hb:zW M (.osl id (some (0,i))) b) (hx:zW M (.osl id (some (j,m))) x) (j0:i≤j):
  qL P (Builtin.append_ #[t,t] T #[b,x]) M w (.c (.osl nm (some (0,i+m)))) [(id,.gone),(nm,.arr true ty (xs.take i++yB xs j m++xs.drop (i+m)))]:=by
 obtain⟨inf,z,h1,h2,h3,h4,h5,h6,h7⟩:=oq dA
 obtain⟨C,hC,hO⟩:=ok.obj id _ aa
 obtain⟨news,hR,hE⟩:=uB hC hO hx
 obtain⟨C1,gi,dD,_⟩:=hx
 rw[hC] at gi;cases gi
 obtain⟨C1,gi,pO,⟨A,c,rfl,hS⟩,gh⟩:=hb
 rw[hC] at gi;cases gi
 obtain⟨_,_,_,gh,ux⟩:=gh
 cases gh
 have hlen:=hO.1
 have uE:(ga xs (some (j,m))).length=m:=xS (by omega)
 rw[uE] at hR
 have ye:news.length=m*ty.size:=hR.choose_spec.choose_spec.2.1
 have pP:(yB xs j m).length=m:=uE
 have pQ:(xs.take i).length=i:=by rw[List.length_take];omega
 have Dm:(xs.take i++yB xs j m++xs.drop (i+m)).length=xs.length:=by
  rw[List.length_append,List.length_append,pP,pQ,List.length_drop];omega
 have aX:i+m≤c:=by omega
 cases hB:C.blk with
 |none=>
  rw[hB] at hS
  obtain⟨rfl,rfl,rfl⟩:=hS
  have hr:=ot (P:=P) (w:=w) (A:=none) (sLen:=0) (sCap:=0) T hu h1 h3 (by rw[←hM];exact hR) aX w rfl
  refine NM (s:=Builtin.append_ #[t,t] T #[.slice none 0 0,x]) (H':=M.H) ok hM aa hC aL rfl (fun _ _=>rfl) (fun _=>rfl) (fun M' _ _ _=>?_) (by omega) (by omega) ?_ ⟨hM.symm,rfl,rfl,rfl⟩ hr
  ·rw[hB]
   exact List.eq_nil_of_length_eq_zero (by omega)
  ·rw[hB]
   exact⟨rfl,by omega,rfl⟩
 |some B=>
  rw[hB] at hS
  obtain⟨hc,a,rfl,ha,hs⟩:=hS
  obtain⟨k1,k2,k3,k4⟩:=hO
  rw[hB] at k4
  obtain⟨vals,ev,k5,k6,k7,k8⟩:=k4
  rw[Nat.zero_mul] at ha
  rw[Nat.zero_add,k2] at hs
  have cG:qX M.H B=vals.size:=by simp only[qX,k5]
  have gU:w.heap[B]? =some (.cells vals ev (0,0)):=by rw[←hM];exact k5
  by_cases h0:c=0
  ·have Ha:m=0:=by omega
   have hr := ot (P := P) (w := w) (A := some ⟨B, a, none⟩) (sLen := i) (sCap := c) T hu h1 h3 (by rw [← hM]; exact hR) aX w (by
    have:news=[]:=List.eq_nil_of_length_eq_zero (by rw[ye,Ha,Nat.zero_mul])
    rw[this];rfl)
   refine NM (s:=Builtin.append_ #[t,t] T #[.slice (some ⟨B,a,none⟩) i c,x]) (H':=M.H) ok hM aa hC aL rfl (fun _ _=>rfl) (fun _=>rfl) (fun M' _ _ _=>?_) (by omega) (by omega) ?_ ⟨hM.symm,rfl,rfl,rfl⟩ hr
   ·rw[hB]
    refine⟨vals,ev,k5,by rw[Dm];exact k7,fun p hp=>?_⟩
    rw[Dm] at hp;omega
   ·rw[hB]
    exact⟨a,rfl,.inl h0,by rw[h0];simp⟩
  ·have kM:a=0:=by rcases ha with ha|ha<;>omega
   subst kM
   have hle:=Nat.mul_le_mul_right ty.size (show i+m≤xs.length by omega)
   rw[Nat.add_mul] at hle
   have aB:i*ty.size+news.length≤vals.size:=by omega
   have eA:=run_storeCells_at (P:=P) B (i*ty.size) ev news 0 vals w gU (by simpa using aB) (fun v hv=>um (hR.choose_spec.choose_spec.2.2.1 v hv))
   simp only[Nat.add_zero] at eA
   have hr:=ot (P:=P) (w:=w) (A:=some ⟨B,0,none⟩) (sLen:=i) (sCap:=c) T hu h1 h3 (by rw[←hM];exact hR) aX (w.setRow B (yO vals (i*ty.size) news)) (by show(storeCells (Addr.add ⟨B,0,none⟩ (i*ty.size)) news).run P w=_;rw[Addr.add_lit,Nat.zero_add];exact eA)
   obtain⟨f1,f2,f3,f4⟩:=me gU (new:=yO vals (i*ty.size) news) (fg aB)
   refine NM (s:=Builtin.append_ #[t,t] T #[.slice (some ⟨B,0,none⟩) i c,x]) (H':=(w.setRow B (yO vals (i*ty.size) news)).heap) ok hM aa hC aL (by rw[hM];exact f1)
    (fun b hb=>by rw[hM];exact f3 b fun e=>hb (e▸jL hB)) (fun b=>by rw[hM];exact f4 b) (fun M' xt hH hG=>?_) (by omega) (by omega) ?_ ⟨rfl,rfl,rfl,rfl⟩ hr
   ·rw[hB]
    refine⟨_,ev,f2,by rw[Dm,fg aB];exact k7,fun p hp=>?_⟩
    rw[Dm] at hp
    have aK:=Nat.mul_le_mul_right ty.size (show p+1≤xs.length by omega)
    rw[Nat.add_mul] at aK
    have old:(xs.take i++yB xs j m++xs.drop (i+m))[p]? =xs[p]? →(∀q,q<ty.size→(yO vals (i*ty.size) news)[p*ty.size+q]? =vals[p*ty.size+q]?)→zY M'.H M'.G ty ((xs.take i++yB xs j m++xs.drop (i+m))[p]'(by omega)) (fun q=>(yO vals (i*ty.size) news)[p*ty.size+q]?):=fun e1 e2=>by
     have e3:(xs.take i++yB xs j m++xs.drop (i+m))[p]'(by omega)=xs[p]:=by
      rw[List.getElem?_eq_getElem (by omega),List.getElem?_eq_getElem hp,Option.some.injEq] at e1
      exact e1
     rw[e3]
     exact yQ xt.G xt.sameG ty _ _ _ e2 (k8 p hp)
    by_cases Hb:p<i
    ·refine old ?_ fun q hq=>?_
     ·rw[List.append_assoc,List.getElem?_append_left (by omega),List.getElem?_take,if_pos Hb]
     ·have:=Nat.mul_le_mul_right ty.size (show p+1≤i by omega)
      rw[Nat.add_mul] at this
      rw[wW aB,if_pos (by omega)]
    ·by_cases Dn:p<i+m
     ·have e3:(xs.take i++yB xs j m++xs.drop (i+m))[p]'(by omega)=(ga xs (some (j,m)))[p-i]'(by omega):=by
       rw[List.getElem_append_left (by rw[List.length_append,pQ,pP];exact Dn),List.getElem_append_right (by omega)]
       simp only[pQ];rfl
      rw[e3]
      refine yQ xt.G xt.sameG ty _ _ _ (fun q hq=>?_) (hE (p-i) (by omega))
      have q1:=Nat.mul_le_mul_right ty.size (show i≤p by omega)
      have q2:=Nat.mul_le_mul_right ty.size (show p-i+1≤m by omega)
      rw[Nat.add_mul] at q2
      have q3:(p-i)*ty.size=p*ty.size-i*ty.size:=Nat.sub_mul ..
      rw[wW aB,if_neg (by omega),if_pos (by omega)]
      congr 1;omega
     ·refine old ?_ fun q hq=>?_
      ·rw[List.getElem?_append_right (by rw[List.length_append,pQ,pP];omega),List.getElem?_drop]
       congr 1
       rw[List.length_append,pQ,pP];omega
      ·have:=Nat.mul_le_mul_right ty.size (show i+m≤p by omega)
       rw[Nat.add_mul] at this
       rw[wW aB,if_neg (by omega),if_neg (by omega)]
   ·rw[hB]
    exact⟨0,rfl,.inr rfl,by rw[←k2] at hs⊢;exact hs⟩
theorem vJ3 {P:Program}{M:zB}{w:World}(ok:Ok M)(hM:M.H=w.heap){t T:TypeId}{id lo n:Nat}{rx:Value}{v:zD}{u:zZ}(hx:zW M (.osl id (some (lo,n))) rx)
  (h:yI (Gr P M.h t id lo n) v u):qL P (Builtin.clear_ #[t] T #[rx]) M w v u:=by
 unfold Gr at h
 split at h
 case h_2=>exact h.elim
 rename_i e s xs hu aa
 split at h
 case h_2=>exact h.elim
 rename_i ty dA
 obtain⟨heq,h⟩:=uD h
 have:=xq heq
 subst this
 obtain⟨_,rfl,rfl⟩:=fc h
 obtain⟨inf,z,h1,h2,h3,h4,h5,h6,h7⟩:=oq dA
 obtain⟨C,hC,dD,⟨A,c,rfl,hS⟩,_⟩:=hx
 obtain⟨C1,gi,hO⟩:=ok.obj id _ aa
 rw[hC] at gi;cases gi
 by_cases G7:n=0
 ·subst G7
  have e0:xs.take lo++List.replicate 0 ty.dflt++xs.drop (lo+0)=xs:=by simp
  rw[e0]
  refine⟨.tuple #[],w,M,?_,rfl,rfl,rfl,hM,?_,ok,yT.refl M,trivial⟩
  ·cases A with
   |none=>simp[Builtin.clear_,run_underlying hu]
   |some a=>simp[Builtin.clear_,run_underlying hu]
  ·rw[MY,xR aa]
 ·obtain⟨k1,k2,k3,k4⟩:=hO
  cases hB:C.blk with
  |none=>rw[hB] at hS;omega
  |some B=>
   rw[hB] at hS k4
   obtain⟨hc,a,rfl,ha,hs⟩:=hS
   obtain⟨vals,ev,k5,k6,k7,k8⟩:=k4
   have kL:a=lo*ty.size:=by rw[←k2];rcases ha with ha|ha<;>omega
   subst kL
   have gU:w.heap[B]? =some (.cells vals ev (0,0)):=by rw[←hM];exact k5
   have Dm:(Builtin.zeroCells z.cells n).toList.length=n*ty.size:=by rw[Array.length_toList,yc,h7]
   have hle:=Nat.mul_le_mul_right ty.size (show lo+n≤xs.length by omega)
   rw[Nat.add_mul] at hle
   have aB:lo*ty.size+(Builtin.zeroCells z.cells n).toList.length≤vals.size:=by omega
   have ca:∀v∈(Builtin.zeroCells z.cells n).toList,v.one1=true:=vA7 h4 h7
   have eA:=run_storeCells_at (P:=P) B (lo*ty.size) ev (Builtin.zeroCells z.cells n).toList 0 vals w gU (by simpa using aB) (fun v hv=>um (ca v hv))
   simp only[Nat.add_zero] at eA
   obtain⟨f1,f2,f3,f4⟩:=me gU (new:=yO vals (lo*ty.size) (Builtin.zeroCells z.cells n).toList) (fg aB)
   have lF:(Builtin.clear_ #[t] T #[.slice (some ⟨B,lo*ty.size,none⟩) n c]).run P w=.ok (.tuple #[]) (w.setRow B (yO vals (lo*ty.size) (Builtin.zeroCells z.cells n).toList)):=by
    obtain⟨n',rfl⟩:∃n',n=n'+1:=⟨n-1,by omega⟩
    have e:(storeCells ⟨B,lo*ty.size,none⟩ (Builtin.zeroCells z.cells (n'+1)).toList).run P w=.ok () (w.setRow B (yO vals (lo*ty.size) (Builtin.zeroCells z.cells (n'+1)).toList)):=eA
    simp[Builtin.clear_,run_underlying hu,zeroValue,typeInfo,h1,h2,e]
   have hH:∀b,b∉C.fp→(w.setRow B (yO vals (lo*ty.size) (Builtin.zeroCells z.cells n).toList)).heap[b]? =M.H[b]? :=fun b mO=>by
    rw[hM];exact f3 b fun e=>mO (e▸jL hB)
   have cG:∀b,b<M.H.size→qX (w.setRow B (yO vals (lo*ty.size) (Builtin.zeroCells z.cells n).toList)).heap b=qX M.H b:=fun b _=>by rw[hM];exact f4 b
   have hol:(xs.take lo++List.replicate n ty.dflt++xs.drop (lo+n)).length=xs.length:=by
    simp only[List.length_append,List.length_take,List.length_replicate,List.length_drop];omega
   have x:=zB.write_ext ok aa rfl hC C.le_refl hH cG (.arr true ty (xs.take lo++List.replicate n ty.dflt++xs.drop (lo+n)))
   have := zB.write_ok ok aa rfl hC C.le_refl (fun _ h => h) (by rw [hM]; exact f1) hH cG (o' := .arr true ty (xs.take lo ++ List.replicate n ty.dflt ++ xs.drop (lo + n))) (by
    refine⟨by rw[hol];exact k1,k2,k3,?_⟩
    rw[hB]
    refine⟨_,ev,f2,fun h=>(by cases h),by rw[hol,fg aB];exact k7,fun p hp=>?_⟩
    rw[hol] at hp
    have aK:=Nat.mul_le_mul_right ty.size (show p+1≤xs.length by omega)
    rw[Nat.add_mul] at aK
    have Dp:(xs.take lo).length=lo:=by rw[List.length_take];omega
    have old:(xs.take lo++List.replicate n ty.dflt++xs.drop (lo+n))[p]? =xs[p]? →(∀q,q<ty.size→(yO vals (lo*ty.size) (Builtin.zeroCells z.cells n).toList)[p*ty.size+q]? =vals[p*ty.size+q]?)→
      zY (M.write id (.arr true ty (xs.take lo++List.replicate n ty.dflt++xs.drop (lo+n))) C (w.setRow B (yO vals (lo*ty.size) (Builtin.zeroCells z.cells n).toList)).heap).H (M.write id (.arr true ty (xs.take lo++List.replicate n ty.dflt++xs.drop (lo+n))) C (w.setRow B (yO vals (lo*ty.size) (Builtin.zeroCells z.cells n).toList)).heap).G ty ((xs.take lo++List.replicate n ty.dflt++xs.drop (lo+n))[p]'(by omega)) (fun q=>(yO vals (lo*ty.size) (Builtin.zeroCells z.cells n).toList)[p*ty.size+q]?):=fun e1 e2=>by
     have e3:(xs.take lo++List.replicate n ty.dflt++xs.drop (lo+n))[p]'(by omega)=xs[p]:=by
      rw[List.getElem?_eq_getElem (by omega),List.getElem?_eq_getElem hp,Option.some.injEq] at e1
      exact e1
     rw[e3]
     exact yQ x.G x.sameG ty _ _ _ e2 (k8 p hp)
    by_cases Hb:p<lo
    ·refine old ?_ fun q hq=>?_
     ·rw[List.append_assoc,List.getElem?_append_left (by omega),List.getElem?_take,if_pos Hb]
     ·have:=Nat.mul_le_mul_right ty.size (show p+1≤lo by omega)
      rw[Nat.add_mul] at this
      rw[wW aB,if_pos (by omega)]
    ·by_cases Dn:p<lo+n
     ·have e3:(xs.take lo++List.replicate n ty.dflt++xs.drop (lo+n))[p]'(by omega)=ty.dflt:=by
       rw[List.getElem_append_left (by rw[List.length_append,Dp,List.length_replicate];exact Dn),List.getElem_append_right (by omega)]
       simp
      rw[e3]
      refine C6 ty _ fun q hq=>?_
      have q1:=Nat.mul_le_mul_right ty.size (show lo≤p by omega)
      have q2:=Nat.mul_le_mul_right ty.size (show p-lo+1≤n by omega)
      rw[Nat.add_mul] at q2
      have q3:(p-lo)*ty.size=p*ty.size-lo*ty.size:=Nat.sub_mul ..
      rw[wW aB,if_neg (by omega),if_pos (by omega),show p*ty.size+q-lo*ty.size=(p-lo)*ty.size+q by omega,Xu h4 h7 hq (by omega)]
     ·refine old ?_ fun q hq=>?_
      ·rw[List.getElem?_append_right (by rw[List.length_append,Dp,List.length_replicate];omega),List.getElem?_drop]
       congr 1
       rw[List.length_append,Dp,List.length_replicate];omega
      ·have:=Nat.mul_le_mul_right ty.size (show lo+n≤p by omega)
       rw[Nat.add_mul] at this
       rw[wW aB,if_neg (by omega),if_neg (by omega)])
   exact⟨_,_,_,lF,rfl,rfl,rfl,rfl,rfl,this.1,this.2,trivial⟩
theorem vFi {P:Program}{M:zB}{w:World}(ok:Ok M)(hM:M.H=w.heap){mat:Bool}{nm:Nat}{t T:TypeId}{b x v:zD}{u:zZ}{rb rx:Value}
  (hb:zU M b rb) (hx:zU M x rx) (h:yI (xF P mat nm M.h t b x) v u):qL P (Builtin.append_ #[t,t] T #[rb,rx]) M w v u:=by
 unfold xF at h
 split at h
 case h_2=>exact h.elim
 rename_i e b x hu aL
 replace hb:zW M b rb:=hb
 replace hx:zW M x rx:=hx
 split at h
 ·exact h.elim
 rename_i ty dA
 dsimp only at h
 cases mat with
 |true=>
  simp only[cond_true] at h
  split at h
  ·rename_i id jd
   split at h
   ·rename_i v1 xs v2 ys aa cH
    cases bc:Nat.beq id jd with
    |true=>rw[bc] at h;exact h.elim
    |false=>
     rw[bc] at h
     obtain⟨hr,rfl,rfl⟩:=fc h
     exact vEs ok hM hu dA aL aa cH (fun e=>by subst e;simp at bc) hb hx (Dd hr)
   ·exact h.elim
  ·exact h.elim
 |false=>
  simp only[cond_false] at h
  split at h
  ·split at h
   ·rename_i ys u1 ht
    obtain⟨hr,rfl,rfl⟩:=fc h
    obtain⟨rfl,news,h1,h2⟩:=Xn ok hx ht
    rw[show rb=.slice none 0 0 from hb]
    exact yWp ok hM hu dA aL h1 h2 (Dd hr)
   ·exact h.elim
  ·rename_i id r
   split at h
   ·rename_i s xs aa
    split at h
    ·rename_i zs ys u1 hz ht
     obtain⟨e1,hz⟩:=ja hz
     subst e1
     subst hz
     obtain⟨rfl,news,h1,h2⟩:=Xn ok hx ht
     split at h
     ·rename_i i
      rcases Xt h with⟨hc,h⟩|⟨_,h⟩
      ·split at h
       ·rename_i i' jd j m zs e1 e2 _
        cases e1
        have:=Nat.eq_of_beq_eq_true hc
        subst this
        obtain⟨_,hz⟩:=ja e2
        subst hz
        obtain⟨hr,rfl,rfl⟩:=fc h
        exact yX2 ok hM hu dA aL aa hb hx (Nat.le_of_ble_eq_true hr)
       ·exact h.elim
      ·obtain⟨hr,rfl,rfl⟩:=fc h
       exact NH ok hM hu dA aL aa hb rfl h1 h2 (Dd hr)
     ·rcases Xt h with⟨hc,h⟩|⟨_,h⟩
      ·exact h.elim
      ·obtain⟨hr,rfl,rfl⟩:=fc h
       exact NH ok hM hu dA aL aa hb trivial h1 h2 (Dd hr)
     ·exact h.elim
    ·exact h.elim
   ·exact h.elim
  ·exact h.elim
theorem NN {M:zB}(ok:Ok M){c:zG}{v:Value}{t:Ty}{ys:List t.den}(hv:zW M c v)(h:ig M.h c=some ⟨t,ys⟩){kd:IntKind}(ht:t=.int kd):
  ∃news,Rd M.H v ys.length t.size news∧∃F,∀i (hi:i<ys.length),zY M.H F t ys[i] (fun j=>news[i*t.size+j]?):=by
 unfold ig at h
 split at h
 ·rename_i sh s xs
  cases h
  obtain⟨news,h1,h2⟩:=Nz hv
  exact⟨news,h1,_,h2⟩
 ·rename_i id r
  split at h
  ·rename_i own s xs aa
   cases h
   obtain⟨C,hC,hO⟩:=ok.obj _ _ aa
   obtain⟨news,h1,h2⟩:=uB hC hO hv
   exact⟨news,h1,_,h2⟩
  ·cases r with
   |none=>cases h;cases ht
   |some p=>cases h
  ·cases h
 ·rename_i id i ver
  split at h
  ·rename_i v' xs aa
   cases cM:Nat.beq v' ver with
   |false=>rw[cM] at h;cases h
   |true=>
    rw[cM] at h
    cases h
    have e:v'=ver:=by simpa using cM
    subst e
    obtain⟨C,hC,hO⟩:=ok.obj _ _ aa
    obtain⟨C',ax,ca,_,aK⟩:=hv
    rw[hC] at ax;cases ax
    obtain⟨rb,rl,mi,sv⟩:=aK hO.1
    by_cases hi:i<xs.length
    ·obtain⟨B,mP,v2,k1,k2,k3,k4,k5,k6⟩:=xQ hO hi
     rw[mi] at k3
     cases k3
     rw[show xs.getD i []=xs[i] by simp[List.getD,hi]]
     cases rb with
     |none=>
      obtain⟨rfl,h0⟩:=sv
      have cd:xs[i]=[]:=List.eq_nil_of_length_eq_zero h0
      rw[cd]
      obtain⟨news,q1,q2⟩:=Db (H:=M.H) (F:=M.G) (t:=.int .i64) (A:=none) (c:=0)
      exact⟨news,q1,_,q2⟩
     |some R=>
      obtain⟨a,c,rfl,h1,h2,h3⟩:=sv
      by_cases h0:xs[i].length=0
      ·have cd:xs[i]=[]:=List.eq_nil_of_length_eq_zero h0
       rw[cd]
       obtain⟨news,q1,q2⟩:=Db (H:=M.H) (F:=M.G) (t:=.int .i64) (A:=some ⟨R,a,none⟩) (c:=c)
       exact⟨news,q1,_,q2⟩
      ·have ha:a=0:=by rcases h2 with h|h<;>omega
       subst ha
       obtain ⟨news, q1, q2⟩ := Ny (H := M.H) (F := fun _ => True) (t := .int .i64) (ys := xs[i]) (B := R) (o := 0) (c := c) h1 (fun j hj=>by
        simp only[zY,Ty.size,Nat.zero_add,Nat.mul_one,Nat.add_zero]
        exact k6 R rfl j hj)
       exact⟨news,q1,_,q2⟩
    ·have:C.rows[i]? =none:=List.getElem?_eq_none (by have:=hO.2.2.2.1;omega)
     rw[this] at mi;cases mi
  ·cases h
 ·cases h
theorem vMm {M:zB}(ok:Ok M){c:zG}{v:Value}{t:Ty}{ys:List t.den}(hv:zW M c v)(h:ig M.h c=some ⟨t,ys⟩):∃A k,v=.slice A ys.length k:=by
 by_cases ht:t=.int .i64
 ·obtain⟨news,⟨A,k,e,_⟩,_⟩:=NN ok hv h ht
  exact⟨A,k,e⟩
 unfold ig at h
 split at h
 ·cases h
  obtain⟨news,⟨A,k,e,_⟩,_⟩:=Nz hv
  exact⟨A,k,e⟩
 ·rename_i id r
  split at h
  ·rename_i own s xs aa
   cases h
   obtain⟨C,hC,hO⟩:=ok.obj _ _ aa
   obtain⟨news,⟨A,k,e,_⟩,_⟩:=uB hC hO hv
   exact⟨A,k,e⟩
  ·rename_i ver xs aa
   cases r with
   |none=>
    cases h
    obtain⟨C,hC,hO⟩:=ok.obj _ _ aa
    obtain⟨C',ax,A,k,e,_⟩:=hv
    rw[hC] at ax;cases ax
    exact⟨A,k,by rw[e,hO.2.1]⟩
   |some p=>cases h
  ·cases h
 ·rename_i id i ver
  split at h
  ·cases cM:Nat.beq _ ver with
   |false=>rw[cM] at h;cases h
   |true=>rw[cM] at h;cases h;exact absurd rfl ht
  ·cases h
 ·cases h
theorem ySi {M:zB}(ok:Ok M){c:zG}{v:Value}{n:Nat}(hv:zW M c v)(h:xu M.h c=some n):∃A k,v=.slice A n k:=by
 unfold xu at h
 split at h
 ·cases h;exact⟨none,0,hv⟩
 ·cases h
  obtain⟨C,B,_,_,e⟩:=hv
  exact⟨_,_,e⟩
 ·split at h
  ·rename_i t xs hr
   cases h
   exact vMm ok hv hr
  ·cases h
theorem vG8 {P:Program}{w:World}{t e:TypeId}{A:Option Addr}{n k:Nat}{T:TypeId}{ts:Array TypeId}(h0:ts[0]? =some t)(hu:P.underlying t=some (.slice e)):
  (Builtin.len_ ts T #[.slice A n k]).run P w=.ok (.int .i64 n) w:=by
 have hr:(underlying t).run P w=.ok (.slice e) w:=by simp[underlying,hu]
 simp[Builtin.len_,h0,hr,goInt]
theorem Xv {P:Program}{M:zB}{w:World}(ok:Ok M)(hM:M.H=w.heap){lt:Bool}{l:List zD}{rl:Array Value}{v:zD}{u:zZ}{ts:Array TypeId}{T:TypeId}(hl:zP (zU M) l rl.toList)
  (h:yI (Gs lt l) v u):qL P (bif lt then Builtin.min_ ts T rl else Builtin.max_ ts T rl) M w v u:=by
 unfold Gs at h
 split at h
 ·rename_i k x j y
  obtain⟨rfl,rfl⟩:=vP h
  obtain⟨rl⟩:=rl
  match rl,hl with
  |[a,b],⟨h1,h2,_⟩=>
   rw[show a=.int k x from h1,show b=.int j y from h2]
   refine .pure (rv:=.int k (bif lt then(bif decide (y<x) then y else x) else(bif decide (y>x) then y else x))) ok hM ?_ rfl
   cases lt<;>simp[Builtin.min_,Builtin.max_,Builtin.min2,Builtin.max2,Bool.cond_decide]
 ·rename_i k x j y i z
  obtain⟨rfl,rfl⟩:=vP h
  obtain⟨rl⟩:=rl
  match rl,hl with
  |[a,b,c],⟨h1,h2,h3,_⟩=>
   rw[show a=.int k x from h1,show b=.int j y from h2,show c=.int i z from h3]
   refine .pure (rv:=_) ok hM ?_ rfl
   cases lt<;>simp[Builtin.min_,Builtin.max_,Builtin.min2,Builtin.max2,Bool.cond_decide]
 ·exact h.elim
theorem Xw {M:zB}:∀{cs:List zG} {ns:List Int},uh cs=some ns→cs=ns.map (.int .i64)
 |[],ns,h=>by cases h;rfl
 |.int .i64 n::l,ns,h=>by
  unfold uh at h
  split at h
  ·rename_i r hr
   cases h
   rw[Xw (M:=M) hr];rfl
  ·cases h
theorem Xx (xs:List Int):∀(ns:List Int) (i:Nat),rY xs i (ns.map (.int .i64))=(((xs.drop i).take ns.length)++ns.drop ((xs.drop i).take ns.length).length).map (.int .i64)
 |[],i=>by simp[rY]
 |n::ns,i=>by
  simp only[List.map_cons,rY,Xx xs ns (i+1)]
  by_cases hi:i<xs.length
  ·have hb:Nat.blt i xs.length=true:=by simpa[Nat.blt_eq] using hi
   rw[hb,List.drop_eq_getElem_cons hi]
   simp only[cond_true,List.length_cons,List.take_succ_cons,List.drop_succ_cons,List.cons_append,List.map_cons]
   rw[show xs.getD i 0=xs[i] by simp[List.getD,hi]]
  ·have hb:Nat.blt i xs.length=false:=by
    cases h:Nat.blt i xs.length with
    |false=>rfl
    |true=>exact absurd (by simpa[Nat.blt_eq] using h) hi
   have e1:xs.drop i=[]:=List.drop_eq_nil_of_le (by omega)
   have e2:xs.drop (i+1)=[]:=List.drop_eq_nil_of_le (by omega)
   rw[hb,e1,e2]
   simp
theorem yZ6 {P:Program}{M:zB}{w:World}(ok:Ok M)(hM:M.H=w.heap){t e:TypeId}{ts:Array TypeId}{T:TypeId}{d s v:zD}{u:zZ}{rd rs:Value}(h0:ts[0]? =some t)(hu:P.underlying t=some (.slice e))(he:P.cellsOf e=1)
  (hd:zU M d rd) (hs:zU M s rs) (h:yI (xG M.h d s) v u):qL P (Builtin.copy_ ts T #[rd,rs]) M w v u:=by
 unfold xG at h
 split at h
 case h_2=>exact h.elim
 rename_i id off n s
 split at h
 case h_2=>exact h.elim
 rename_i cells ys aa mT
 split at h
 case h_2=>exact h.elim
 rename_i vs ew
 split at h
 case h_2=>exact h.elim
 rename_i ns Np
 obtain⟨_,rfl,rfl⟩:=fc h
 clear h
 obtain⟨C,B,hC,hB,rfl⟩:=hd
 obtain⟨C',ax,B',vals,ev,k1,k2,k3,k4,k5⟩:=ok.obj id _ aa
 rw[hC] at ax;cases ax
 rw[hB] at k1;cases k1
 obtain⟨c1,c2,c3⟩:=CQ ew
 obtain⟨i,hi⟩:=mN (P:=P) (t:=e) (by omega)
 obtain⟨A,k,rfl,ee⟩:∃A k,rs=.slice A ys.length k∧∃news,Rd M.H (.slice A ys.length k) ys.length 1 news∧news=ys.map (.int .i64):=by
  split at mT
  ·cases mT
   exact⟨none,0,hs,[],⟨none,0,rfl,rfl,by simp,rfl⟩,rfl⟩
  ·obtain⟨news,hR,F,hE⟩:=NN ok hs mT rfl
   obtain⟨A,k,e,hl,r⟩:=hR
   refine⟨A,k,e,news,⟨A,k,rfl,hl,r⟩,?_⟩
   refine List.ext_getElem (by simpa[Ty.size] using hl) fun j h1 h2=>?_
   have:=hE j (by simpa using h2)
   simp only[zY,Ty.size,Nat.mul_one,Nat.add_zero] at this
   rw[List.getElem?_eq_getElem h1,Option.some.injEq] at this
   rw[this];simp
 obtain⟨news,⟨A',k',e',hl,ca,ee⟩,Dq⟩:=ee
 cases e'
 let m:=min ys.length n
 have hm:Nat.min ys.length n=m:=rfl
 have uF:(Builtin.firstCells 1 m (.slice A ys.length k)).run P w=.ok (news.take m).toArray w:=by
  have:Rd M.H (.slice A m k) m 1 (news.take m):=by
   refine⟨A,k,rfl,?_,fun u hu=>ca u (List.mem_of_mem_take hu),?_⟩
   ·rw[List.length_take,hl];omega
   ·cases A with
    |none=>have:ys.length=0:=ee;omega
    |some a=>
     rcases ee with h|⟨h1,h2⟩
     ·left;omega
     ·refine .inr ⟨h1,fun j u hu=>h2 j u ?_⟩
      rw[List.getElem?_take] at hu
      split at hu
      ·exact hu
      ·cases hu
  have:=this.first (P:=P) w hM.symm
  cases A<;>exact this
 have Xy:w.heap[B]? =some (.cells vals ev (0,0)):=by rw[←hM];exact k3
 have di:=k4.length
 have ye:(news.take m).length=m:=by rw[List.length_take,hl];omega
 have aB:off+(news.take m).length≤vals.size:=by
  rw[ye];simp at di;omega
 have eA:=run_storeCells_at (P:=P) B off ev (news.take m) 0 vals w Xy (by simpa using aB) (fun v hv=>um (ca v (List.mem_of_mem_take hv)))
 simp only[Nat.add_zero] at eA
 have lF:(Builtin.copy_ ts T #[.slice (some ⟨B,off,none⟩) n n,.slice A ys.length k]).run P w=.ok (.int .i64 (m:Nat)) (w.setRow B (yO vals off (news.take m))):=by
  simp[Builtin.copy_,h0,run_underlying hu,Builtin.lenOf,gQ w hi,he,hm,uF,goInt]
  have e:(storeCells ⟨B,off,none⟩ (news.take m)).run P w=.ok () (w.setRow B (yO vals off (news.take m))):=eA
  rw[e];rfl
 obtain⟨f1,f2,f3,f4⟩:=me Xy (new:=yO vals off (news.take m)) (fg aB)
 have hH:∀b,b∉C.fp→(w.setRow B (yO vals off (news.take m))).heap[b]? =M.H[b]? :=fun b mO=>by
  rw[hM];exact f3 b fun e=>mO (e▸jL hB)
 have cG:∀b,b<M.H.size→qX (w.setRow B (yO vals off (news.take m))).heap b=qX M.H b:=fun b _=>by rw[hM];exact f4 b
 let o':Obj:=.box true (cells.take off++rY ys 0 vs++cells.drop (off+n))
 have x:=zB.write_ext ok aa rfl hC C.le_refl hH cG o'
 have aA:cells.take off++rY ys 0 vs++cells.drop (off+n)=cells.take off++(ys.take m).map (.int .i64)++cells.drop (off+((ys.take m).map (zG.int .i64)).length):=by
  have hv:=Xw (M:=M) Np
  have hnn:ns.length=n:=by rw[←c3,hv];simp
  have Dr:(ys.drop 0).take ns.length=ys.take m:=by
   rw[List.drop_zero,hnn]
   by_cases h:ys.length≤n
   ·rw[List.take_of_length_le h,List.take_of_length_le (by omega)]
   ·rw[show m=n by omega]
  rw[hv,Xx,Dr,List.map_append,List.map_drop,←hv,List.append_assoc,List.append_assoc,List.append_assoc]
  congr 2
  have Hc:(ys.take m).length=m:=by rw[List.length_take];omega
  have e1:cells.drop (off+n)=(cells.drop (off+m)).drop (n-m):=by
   rw[List.drop_drop];congr 1;omega
  rw[List.length_map,Hc,c2,List.drop_take,List.drop_drop,e1,List.take_append_drop]
 have := zB.write_ok ok aa rfl hC C.le_refl (fun _ h => h) (by rw [hM]; exact f1) hH cG (o' := o') (by
  refine⟨B,_,ev,hB,k2,f2,?_,fun h=>(by cases h)⟩
  rw[aA]
  refine M5 x k4 (us:=news.take m) ?_ (by simpa using aB)
  rw[Dq]
  refine zP.of_get (by simp) fun j h1 h2=>?_
  simp[zW])
 exact⟨_,_,_,lF,rfl,rfl,rfl,rfl,rfl,this.1,this.2,rfl⟩
theorem Xz {P:Program}{t:TypeId}(h:CJ P t=true):∃k e i,P.underlying t=some (.map k e)∧P.underlying k=some (.int .i64)∧P.info? e=some i∧i.zero=some (.bool false):=by
 unfold CJ at h
 split at h
 ·rename_i k e hu
  split at h
  ·rename_i hk hz
   obtain⟨i,h1,h2⟩:=Option.bind_eq_some_iff.1 hz
   exact⟨k,e,i,hu,hk,h1,h2⟩
  ·cases h
 ·cases h
theorem yZi {P:Program}{M:zB}{w:World}(ok:Ok M)(hM:M.H=w.heap){nm:Nat}{t:TypeId}{v:zD}{u:zZ}(h:yI (xB P nm M.h t) v u):qL P (Instr.makeMap t none) M w v u:=by
 unfold xB at h
 split at h
 case h_2=>exact h.elim
 rename_i aL
 obtain⟨_,h⟩:=uD h
 obtain⟨_,rfl,rfl⟩:=fc h
 let C:zS:=⟨some M.H.size,0,0,0,[]⟩
 have := zB.new_ok ok aL (.imap []) C (.map #[] 0) (by simp [C, zS.fp]) (by
  refine⟨M.H.size,#[],0,rfl,rfl,uk,fun e he=>(by simp at he),fun n=>rfl⟩)
 refine⟨.map (some w.heap.size),w.alloc (.map #[] 0),_,?_,rfl,rfl,rfl,?_,rfl,this.1,this.2,C,M.H.size,κset_same _ _ _,rfl,by rw[hM]⟩
 ·simp only[Instr.makeMap,Sem.run_bind,Sem.run_pure];rfl
 ·show M.H.push _=w.heap.push _
  rw[hM]
theorem NO {n:Int}:∀{es:List MapEntry} {i:Nat},(∀e∈es,∃m b,e.key=.int .i64 m∧e.val=.bool b)→
  (jD n es=none∧Instr.findNow (.int .i64) (.int .i64 n) es i=some none)∨
  (∃j b e,jD n es=some (.bool b)∧Instr.findNow (.int .i64) (.int .i64 n) es i=some (some (i+j,.bool b))∧es[j]? =some e∧e.key=.int .i64 n∧
   ∀f:MapEntry→MapEntry,(∀e,(f e).key=.int .i64 n)→jD n (es.modify j f)=some (f e).val∧(∀m,m≠n→jD m (es.modify j f)=jD m es)∧∀e'∈es.modify j f,e'∈es∨e'=f e)
 |[],i,_=>.inl ⟨rfl,rfl⟩
 |e::es,i,h=>by
  obtain⟨m,b,h1,h2⟩:=h e (List.mem_cons_self ..)
  by_cases hm:n=m
  ·subst hm
   refine .inr ⟨0,b,e,?_,?_,rfl,h1,fun f hf=>⟨?_,fun m bc=>?_,fun e' he=>?_⟩⟩
   ·simp[jD,h1,h2]
   ·simp[Instr.findNow,Instr.sameNow,h1,h2]
   ·simp[jD,hf]
   ·simp[jD,hf,h1,bc]
   ·simp only[List.modify_zero_cons,List.mem_cons] at he⊢
    rcases he with h|h
    ·exact .inr h
    ·exact .inl (.inr h)
  ·have hs:Instr.findNow (.int .i64) (.int .i64 n) (e::es) i=Instr.findNow (.int .i64) (.int .i64 n) es (i+1):=by
    have hb:(n==m)=false:=by simp[hm]
    simp[Instr.findNow,Instr.sameNow,h1,hb]
   have hf:jD n (e::es)=jD n es:=by simp[jD,h1,hm]
   rcases NO (es:=es) (i:=i+1) (fun e he=>h e (List.mem_cons_of_mem _ he)) with⟨k1,k2⟩|⟨j,b',e',k1,k2,k3,k4,k5⟩
   ·exact .inl ⟨hf.trans k1,hs.trans k2⟩
   ·refine .inr ⟨j+1,b',e',hf.trans k1,by rw[hs,k2];congr 3;omega,by simpa using k3,k4,fun f hfk=>?_⟩
    obtain⟨q1,q2,q3⟩:=k5 f hfk
    refine⟨by rw[List.modify_succ_cons];simp[jD,h1,hm,q1],fun m' bc=>?_,fun e'' he=>?_⟩
    ·rw[List.modify_succ_cons]
     simp only[jD,h1,q2 m' bc]
    ·rw[List.modify_succ_cons,List.mem_cons] at he
     rcases he with he|he
     ·exact .inl (by rw[he];exact List.mem_cons_self ..)
     ·exact(q3 e'' he).imp (List.mem_cons_of_mem _) fun h=>h
theorem Hd {P:Program}{w:World}{r:Nat}{es:Array MapEntry}{ck:Nat}(h:w.heap[r]? =some (.map es ck)):(getObj r).run P w=.ok (.map es ck) w:=by
 simp[getObj,Sem.run,h]
theorem XA {P:Program}{w:World}{r:Nat}{es:Array MapEntry}{ck:Nat}(o:Go.Obj)(h:w.heap[r]? =some (.map es ck)):(setObj r o).run P w=.ok () {w with heap:=w.heap.setIfInBounds r o}:=by
 simp[setObj,Sem.run,h]
theorem He {P:Program}{w:World}{k:TypeId}{b:Bool}{n:Int}(h:P.underlying k=some (.int .i64)):(Instr.checkKey b 10000 k (.int .i64 n)).run P w=.ok () w:=by
 unfold Instr.checkKey
 simp[run_underlying h]
theorem Hf {P:Program}{w:World}{k:TypeId}{n:Int}{es:List MapEntry}{r:Option (Nat×Value)}(h:P.underlying k=some (.int .i64))(hf:Instr.findNow (.int .i64) (.int .i64 n) es 0=some r):(Instr.findKey k (.int .i64 n) es).run P w=.ok r w:=by
 unfold Instr.findKey
 simp[run_underlying h,hf]
theorem vE0 {P:Program}{M:zB}{w:World}(ok:Ok M)(hM:M.H=w.heap){t:TypeId}{x i v:zD}{u:zZ}{rx ri:Value}(hx:zU M x rx)(hi:zU M i ri)(h:yI (xC P M.h t x i) v u):qL P (Instr.lookup t rx ri false) M w v u:=by
 unfold xC at h
 split at h
 case h_2=>exact h.elim
 rename_i id n
 split at h
 case h_2=>exact h.elim
 rename_i cX aa
 obtain⟨hb,h⟩:=uD h
 obtain⟨rfl,rfl⟩:=vP h
 obtain⟨k,e,inf,h1,h2,h3,h4⟩:=Xz hb
 obtain⟨C,B,hC,hB,rfl⟩:=hx
 obtain⟨C',ax,B',es,ck,k1,k2,k3,k4,k5⟩:=ok.obj id _ aa
 rw[hC] at ax;cases ax
 rw[hB] at k1;cases k1
 have lD:ri=.int .i64 n:=hi
 subst lD
 rw[hM] at k3
 refine .pure (rv:=.bool ((cX.lookup n).getD false)) ok hM ?_ rfl
 have h5:=k5 n
 unfold Instr.lookup
 rcases NO (n:=n) (i:=0) k4 with⟨q1,q2⟩|⟨j,b,e',q1,q2,q3,q4,q5⟩
 ·rw[q1] at h5
  have:cX.lookup n=none:=by cases hl:cX.lookup n with|none=>rfl|some b=>rw[hl] at h5;cases h5
  simp[run_underlying h1,Hd k3,He h2,Hf h2 q2,zeroValue,typeInfo,h3,h4,this]
 ·rw[q1] at h5
  have:cX.lookup n=some b:=by cases hl:cX.lookup n with|none=>rw[hl] at h5;cases h5|some b=>rw[hl] at h5;cases h5;rfl
  simp[run_underlying h1,Hd k3,He h2,Hf h2 q2,this]
theorem NP {n:Int}{b:Bool}{c:Nat}:∀{es:List MapEntry},jD n es=none→∀m,jD m (es++[⟨.int .i64 n,.bool b,c⟩])=if m=n then some (.bool b) else jD m es
 |[],_,m=>by simp[jD]
 |e::es,h,m=>by
  rw[List.cons_append]
  have aF:∀(m:Int) (l:List MapEntry),jD m (e::l)=match e.key with|.int .i64 k=>if m=k then some e.val else jD m l|_=>jD m l:=fun m l=>rfl
  rw[aF] at h
  rw[aF,aF]
  split at h
  ·rename_i k hk
   split at h
   ·cases h
   ·rename_i bc
    by_cases hm:m=k
    ·subst hm
     rw[if_pos rfl,if_neg (fun e=>bc e.symm),if_pos rfl]
    ·rw[if_neg hm,NP h m,if_neg hm]
  ·exact NP h m
theorem vK2 {P:Program}{M:zB}{w:World}(ok:Ok M)(hM:M.H=w.heap){t:TypeId}{x i y v:zD}{u:zZ}{rx ri ry:Value}(hx:zU M x rx)(hi:zU M i ri)(hy:zU M y ry)(h:yI (xD P M.h t x i y) v u):
  v=.undef∧kK P (Instr.mapUpdate t rx ri ry) M w u:=by
 unfold xD at h
 split at h
 case h_2=>exact h.elim
 rename_i id n b
 split at h
 case h_2=>exact h.elim
 rename_i cX aa
 obtain⟨hb,h⟩:=uD h
 obtain⟨_,rfl,rfl⟩:=fc h
 obtain⟨k,e,inf,h1,h2,h3,h4⟩:=Xz hb
 obtain⟨C,B,hC,hB,rfl⟩:=hx
 obtain⟨C',ax,B',es,ck,k1,k2,k3,k4,k5⟩:=ok.obj id _ aa
 rw[hC] at ax;cases ax
 rw[hB] at k1;cases k1
 have lD:ri=.int .i64 n:=hi
 subst lD
 have hry:ry=.bool b:=hy
 subst hry
 have k3':=k3
 rw[hM] at k3
 have aV:B<w.heap.size:=(Array.getElem?_eq_some_iff.1 k3).1
 have write:∀(oA:Array MapEntry) (sw:Nat),(Instr.mapUpdate t (.map (some B)) (.int .i64 n) (.bool b)).run P w=.ok () {w with heap:=w.heap.setIfInBounds B (.map oA sw)}→
   (∀e∈oA.toList,∃m b,e.key=.int .i64 m∧e.val=.bool b)→(∀m,jD m oA.toList=if m=n then some (.bool b) else jD m es.toList)→kK P (Instr.mapUpdate t (.map (some B)) (.int .i64 n) (.bool b)) M w [(id,.imap ((n,b)::cX))]:=by
  intro oA sw hr he hf
  have pR:∀c,(w.heap.setIfInBounds B (.map oA sw))[c]? =if c=B then some (.map oA sw) else w.heap[c]? :=fun c=>by
   rw[Array.getElem?_setIfInBounds]
   by_cases hc:B=c
   ·subst hc;simp[aV]
   ·rw[if_neg hc,if_neg (fun e=>hc e.symm)]
  have hH:∀c,c∉C.fp→(w.heap.setIfInBounds B (.map oA sw))[c]? =M.H[c]? :=fun c hc=>by
   rw[pR,if_neg (fun(e:c=B)=>hc (by rw[e];exact jL hB)),hM]
  have cG:∀c,c<M.H.size→qX (w.heap.setIfInBounds B (.map oA sw)) c=qX M.H c:=fun c _=>by
   unfold qX
   rw[pR,hM]
   by_cases hc:c=B
   ·subst hc;rw[if_pos rfl,k3]
   ·rw[if_neg hc]
  have := zB.write_ok ok aa rfl hC C.le_refl (fun _ h => h) (by rw [hM]; simp) hH cG (o' := .imap ((n, b) :: cX)) (by
   refine⟨B,oA,sw,hB,k2,?_,he,fun m=>?_⟩
   ·show(w.heap.setIfInBounds B (.map oA sw))[B]? =_
    rw[pR,if_pos rfl]
   ·rw[hf m,List.lookup_cons]
    by_cases hm:m=n
    ·subst hm;simp
    ·have:(m==n)=false:=by simp[hm]
     rw[if_neg hm,this,k5 m])
  exact⟨_,_,hr,rfl,rfl,rfl,rfl,rfl,this.1,this.2⟩
 refine⟨rfl,?_⟩
 rcases NO (n:=n) (i:=0) k4 with⟨q1,q2⟩|⟨j,b',e',q1,q2,q3,q4,q5⟩
 ·refine write (es.push ⟨.int .i64 n,.bool b,ck⟩) (ck+1) ?_ (fun e he=>?_) fun m=>?_
  ·unfold Instr.mapUpdate
   simp[run_underlying h1,Hd k3,He h2,Hf h2 q2,XA _ k3]
  ·rw[Array.toList_push,List.mem_append,List.mem_singleton] at he
   rcases he with he|he
   ·exact k4 e he
   ·exact⟨n,b,by rw[he],by rw[he]⟩
  ·rw[Array.toList_push]
   exact NP q1 m
 ·obtain⟨r1,r2,r3⟩:=q5 (fun e=>{e with key:=.int .i64 n,val:=.bool b}) fun _=>rfl
  refine write (es.modify j fun e=>{e with key:=.int .i64 n,val:=.bool b}) ck ?_ (fun e he=>?_) fun m=>?_
  ·have aai:((es[j]?).map (·.key)).getD (.int .i64 n)=.int .i64 n:=by
    have:es[j]? =some e':=by simpa using q3
    rw[this];exact q4
   unfold Instr.mapUpdate
   rw[Nat.zero_add] at q2
   simp only[Array.getElem?_toList] at q3
   simp[run_underlying h1,Hd k3,He h2,Hf h2 q2,XA _ k3,q3,q4,Instr.keyThatStays,Instr.sameBits]
  ·rw[Array.toList_modify] at he
   rcases r3 e he with he|he
   ·exact k4 e he
   ·exact⟨n,b,by rw[he],by rw[he]⟩
  ·rw[Array.toList_modify]
   by_cases hm:m=n
   ·subst hm;rw[if_pos rfl];exact r1
   ·rw[if_neg hm];exact r2 m hm
theorem XB:∀(ns:List Int) (b:ByteArray),ns.foldl (fun r n=>r.push (UInt8.ofNat n.toNat)) b=⟨(b.data.toList++kE ns).toArray⟩
 |[],b=>by simp[kE]
 |n::ns,b=>by
  rw[List.foldl_cons,XB ns]
  simp[ByteArray.push,kE]
theorem vA8 {P:Program}{M:zB}(ok:Ok M){c:zG}{v:Value}{xs:List Int}(hv:zW M c v)(h:xr M.h c=some xs){w:World}(hM:M.H=w.heap):
  ∃A n k,v=.slice A n k∧(Conv.bytesToString v).run P w=.ok (.string ⟨(kE xs).toArray⟩) w:=by
 unfold xr at h
 split at h
 ·cases h
  refine⟨none,0,0,hv,?_⟩
  rw[show v=.slice none 0 0 from hv]
  simp[Conv.bytesToString,kE,Sem.run_pure]
  rfl
 ·split at h
  ·rename_i ys hr
   obtain rfl:ys=xs:=by simpa using h
   obtain⟨news,⟨A,k,e,hl,ca,ee⟩,F,hE⟩:=NN ok hv hr rfl
   refine⟨A,_,k,e,?_⟩
   have hn:news=ys.map (Value.int .u8):=by
    refine List.ext_getElem (by simpa[Ty.size] using hl) fun j h1 h2=>?_
    have:=hE j (by simpa using h2)
    simp only[zY,Ty.size,Nat.mul_one,Nat.add_zero] at this
    rw[List.getElem?_eq_getElem h1,Option.some.injEq] at this
    rw[this];simp
   subst e
   cases A with
   |none=>
    have h0:ys.length=0:=ee
    have h1:ys=[]:=List.eq_nil_of_length_eq_zero h0
    subst h1
    simp[Conv.bytesToString,kE,Sem.run_pure]
    rfl
   |some a=>
    have kJ:(loadCells a ys.length).run P w=.ok (ys.map (Value.int .u8)).toArray w:=by
     rcases ee with h0|⟨h1,h2⟩
     ·have h1:ys=[]:=List.eq_nil_of_length_eq_zero h0
      subst h1
      simp[loadCells,loadCellsFrom,Sem.run_pure]
     ·have:=Rd.first (P:=P) (H:=M.H) (v:=.slice (some a) ys.length k) (n:=ys.length) (size:=1) (news:=news) ⟨_,k,rfl,by simpa[Ty.size] using hl,ca,.inr ⟨h1,h2⟩⟩ w hM.symm
      rw[hn] at this
      simpa[Builtin.firstCells] using this
    rw[run_bytesToString w a _ k ys kJ,XB]
    simp[ByteArray.empty,ByteArray.emptyWithCapacity]
    rfl
  ·cases h
structure pS (M:zB) (w:World) (u:zZ) (M':zB) (w':World):Prop where
 os:w'.os=w.os
 tape:w'.tape=w.tape
 output:w'.output=w.output
 H:M'.H=w'.heap
 h:M'.h=qJ M.h u
 ok:Ok M'
 step:yT M M'
def pT (P:Program)(f:Nat)(args:List zD)(h:Hp)(v:zD)(u:zZ):Prop:=
 ∀(M:zB) (w:World) (vs:Array Value),M.h=h→M.H=w.heap→Ok M→zP (zU M) args vs.toList→
  ((callFunc f vs).run P w=.ok (.enter f vs) w∧Calls P f vs w fun
   |.returned rv,w'=>∃M',pS M w u M' w'∧zU M' v rv
   |_,_=>False)∨∃rv w' M',(callFunc f vs).run P w=.ok (.value rv) w'∧pS M w u M' w'∧zU M' v rv
def XE (P:Program)(S:Gt):Prop:=∀k nm f args h v u,yI (S k nm f args h) v u→pT P f args h v u
structure jZ (E:qE):Prop where
 eq:G0 E.P E.eqT
 sums:XE E.P E.sums
section
variable {P:Program} {Q:Exit→Act→World→Prop} {o:Oper} {a:Act} {w:World} {M:zB} {next:Act→World→Prop} {v:zD} {u:zZ}
theorem fh {s:Sem Value}(hr:qL P s M w v u)(he:execOp a.eval o=(do pure (.value (←s)):Sem Next))(hn:∀M' w' rv,pS M w u M' w'→zU M' v rv→next (a.put o.dst rv) w'):
  o.wp P a w next Q:=by
 obtain⟨rv,w',M',h1,h2,h3,h4,h5,h6,h7,h8,h9⟩:=hr
 unfold Oper.wp
 rw[he]
 simp only[Sem.run_bind,h1,Result.andThen_ok,Sem.run_pure]
 exact hn M' w' rv ⟨h2,h3,h4,h5,h6,h7,h8⟩ h9
theorem XF {s:Sem Unit}(hr:kK P s M w u)(he:execOp a.eval o=(do s;pure .skip:Sem Next))(hn:∀M' w' rv,pS M w u M' w'→zU M' .undef rv→next (a.put o.dst rv) w'):
  o.wp P a w next Q:=by
 obtain⟨w',M',h1,h2,h3,h4,h5,h6,h7,h8⟩:=hr
 unfold Oper.wp
 rw[he]
 simp only[Sem.run_bind,h1,Result.andThen_ok,Sem.run_pure]
 exact hn M' w' undef ⟨h2,h3,h4,h5,h6,h7,h8⟩ trivial
theorem oB (ok:Ok M)(hM:M.H=w.heap){rv:Value}(hu:u=[])(hv:zU M v rv)(he:(execOp a.eval o).run P w=.ok (.value rv) w)(hn:∀M' w' rv,pS M w u M' w'→zU M' v rv→next (a.put o.dst rv) w'):
  o.wp P a w next Q:=by
 unfold Oper.wp
 rw[he]
 subst hu
 exact hn M w rv ⟨rfl,rfl,rfl,hM,rfl,ok,.refl M⟩ hv
end
theorem Ds {α β:Type}(f:α→Option β):∀(l:List α) (r:List β),l.mapM f=some r→zP (fun a b=>f a=some b) l r
 |[],r,h=>by simp at h;subst h;trivial
 |a::l,r,h=>by
  simp only[List.mapM_cons,Option.bind_eq_bind,Option.bind_eq_some_iff] at h
  obtain⟨b,h1,bs,h2,h3⟩:=h
  cases h3
  exact⟨h1,Ds f l bs h2⟩
theorem zP.map_left {α β γ:Type}{R:γ→β→Prop}{f:α→γ}:∀{l:List α} {m:List β},zP (fun a b=>R (f a) b) l m→zP R (l.map f) m
 |[],[],_=>trivial
 |_::_,_::_,h=>⟨h.1,zP.map_left h.2⟩
 |[],_::_,h=>h.elim
 |_::_,[],h=>h.elim
def _root_.Go.Operand.lit:Operand→Value
 |.const c=>c
 |_=>undef
theorem yZp {P:Program}{M:zB}{w:World}{t:TypeId}{d:TypeDesc}{y:Operand}{x:zG}{rx ry:Value}{b:Bool}(hu:P.underlying t=some d)(hx:zW M x rx)(hy:ry=y.lit)
  (h:Mv d y x=some b) (op:BinOp) (mU:op=.eql∨op=.neq) (ox oy:Operand):
  (eqGuard op t ox oy rx ry).run P w=.ok () w∧(binOp op t rx ry).run P w=.ok (.bool (CF op b)) w:=by
 have key:∀n,(Op.equalIn (n+1) t rx ry).run P w=.ok b w→(eqGuard op t ox oy rx ry).run P w=.ok () w→(binOp op t rx ry=match op with|.eql=>(do pure (.bool (←Op.equal t rx ry)))|_=>(do pure (.bool (!(←Op.equal t rx ry)))))→
   n=9999→(eqGuard op t ox oy rx ry).run P w=.ok () w∧(binOp op t rx ry).run P w=.ok (.bool (CF op b)) w:=by
  intro n h1 h2 h3 hn
  have eH:(Op.equal t rx ry).run P w=.ok b w:=by subst hn;exact h1
  refine⟨h2,?_⟩
  rw[h3]
  rcases mU with rfl|rfl<;>simp[eH,CF]
 unfold Mv at h
 split at h<;>cases h<;>simp only[Operand.lit] at hy<;>subst hy
 all_goals (try obtain rfl:rx=_:=hx)
 all_goals (try obtain⟨C,B,_,_,rfl⟩:=hx)
 all_goals (try obtain⟨C,B,_,_,_,rfl⟩:=hx)
 all_goals (try obtain⟨B,o,rfl,_⟩:=hx)
 all_goals (try obtain⟨cv,rfl,_⟩:=hx)
 all_goals (try obtain⟨⟨_,_,_,rfl⟩,_⟩:=hx)
 all_goals
  refine key 9999 ?_ ?_ ?_ rfl
  ·generalize 9999=n
   unfold Op.equalIn
   simp[run_underlying hu]
  ·rcases mU with rfl|rfl<;>simp[eqGuard]
  ·rcases mU with rfl|rfl<;>rfl
theorem NQ {M:zB}{ev:Operand→zD}{ρ:Operand→Value}(aO:∀x,zU M (ev x) (ρ x)):∀(l:List (Nat×Operand)),zP (uA M) (l.map fun p=>(p.1,ev p.2)) (l.map fun p=>(p.1,ρ p.2))
 |[]=>trivial
 |p::l=>⟨⟨rfl,aO p.2⟩,NQ aO l⟩
theorem XG {f:Operand→Value}(parts:Array (Nat×Operand)):(parts.map fun(i,x)=>(i,f x))=(parts.toList.map fun p=>(p.1,f p.2)).toArray:=by
 cases parts;simp
theorem XH {M:zB}{ev:Operand→zD}{ρ:Operand→Value}(aO:∀x,zU M (ev x) (ρ x)):∀{l:List Operand} {ids:List Nat},zP (fun x id=>rZ (ev x)=some id) l ids→
  zP (fun id u=>∃C B,M.κ id=some C∧C.blk=some B∧u=.pointer (some ⟨B,0,none⟩)) ids (l.map ρ)
 |[],[],_=>trivial
 |x::l,id::ids,h=>by
  refine⟨?_,XH aO h.2⟩
  have h1:rZ (ev x)=some id:=h.1
  have hx:=aO x
  unfold rZ at h1
  split at h1
  ·rename_i pU hc
   cases h1
   rw[hc] at hx
   exact hx
  ·cases h1
 |[],_::_,h=>h.elim
 |_::_,[],h=>h.elim
theorem XI {M:zB}{ev:Operand→zD}{ρ:Operand→Value}(aO:∀x,zU M (ev x) (ρ x)):∀(l:List Operand),zP (zU M) (l.map ev) (l.map ρ)
 |[]=>trivial
 |x::l=>⟨aO x,XI aO l⟩
theorem vMb {E:qE}(hE:jZ E){A:qB}{k pre:Nat}{Q:Exit→Act→World→Prop}{o:Oper}{a:Act}{w:World}{M:zB}{next:Act→World→Prop}{v:zD}{u:zZ}{ev:Operand→zD}(ok:Ok M)(hM:M.H=w.heap)
  (aO:∀x,zU M (ev x) (a.eval x)) (h:yI (iX E A k pre o ev M.h) v u) (hn:∀M' w' rv,pS M w u M' w'→zU M' v rv→next (a.put o.dst rv) w'):o.wp E.P a w next Q:=by
 unfold iX at h
 dsimp only at h
 split at h
 ·rename_i x ho
  obtain⟨rfl,rfl⟩:=vP h
  exact oB ok hM rfl (aO x) (by cases o;cases ho;rfl) hn
 ·rename_i x ho
  obtain⟨rfl,rfl⟩:=vP h
  exact oB ok hM rfl (aO x) (by cases o;cases ho;rfl) hn
 ·rename_i c x y ho
  split at h
  ·rename_i cb hc
   have j5:=aO c
   rw[hc] at j5
   have j5:a.eval c=.bool cb:=j5
   split at h
   ·rename_i xb yb hx hy
    obtain⟨rfl,rfl⟩:=vP h
    have h1:=aO x
    have h2:=aO y
    rw[hx] at h1
    rw[hy] at h2
    refine oB (rv:=.bool (bif cb then xb else yb)) ok hM rfl (show zU M (.c (.bool _)) (.bool _) from rfl) ?_ hn
    have h1:a.eval x=.bool xb:=h1
    have h2:a.eval y=.bool yb:=h2
    cases o
    cases ho
    show(do pure (.value (if←asBool (a.eval c) then a.eval x else a.eval y)):Sem Next).run E.P w=_
    cases cb<;>simp[j5,asBool,h1,h2]
   ·refine oB (rv:=if cb then a.eval x else a.eval y) ok hM ?_ ?_ ?_ hn
    ·rcases h with⟨_,_,rfl⟩|⟨_,⟨_,_,rfl⟩|⟨_,h⟩⟩
     ·rfl
     ·rfl
     ·exact h.elim
    ·rcases h with⟨rfl,rfl,_⟩|⟨rfl,⟨_,rfl,_⟩|⟨_,h⟩⟩
     ·exact aO x
     ·exact aO y
     ·exact h.elim
    ·cases o
     cases ho
     show(do pure (.value (if←asBool (a.eval c) then a.eval x else a.eval y)):Sem Next).run E.P w=_
     cases cb<;>simp[j5,asBool]
  ·exact h.elim
 ·rename_i t ho
  split at h
  ·rename_i zs aL hz
   obtain⟨_,rfl,rfl⟩:=fc h
   exact fh (vLp ok hM aL hz) (by cases o;cases ho;rfl) hn
  ·exact h.elim
 ·rename_i t x ho
  split at h
  ·rename_i vs aL hv
   obtain⟨_,rfl,rfl⟩:=fc h
   exact fh (vBl ok hM aL (aO x) hv _) (by cases o;cases ho;rfl) hn
  ·exact h.elim
 ·rename_i t parts ho
  have hp:=NQ aO parts.toList
  have:=yTq ok hM hp h
  exact fh this (by cases o;cases ho;rw[←XG];rfl) hn
 ·rename_i t n parts ho
  have hp:=NQ aO parts.toList
  exact fh (vDh ok hM hp h) (by cases o;cases ho;rw[←XG];rfl) hn
 ·rename_i t x ho
  exact fh (vB9 ok hM (aO x) h) (by cases o;cases ho;rfl) hn
 ·rename_i t x y ho
  obtain⟨rfl,hr⟩:=vAd ok hM (aO x) (aO y) h
  exact XF hr (by cases o;cases ho;rfl) hn
 ·rename_i x ho
  have hx:=aO x
  have key:∀c,ev x=.c c→v=.c c→u=[]→(match a.eval x with|.pointer none|.nilIface|.nilFunc=>False|.func (.method _) _ _=>False|_=>True)→o.wp E.P a w next Q:=by
   intro c hc hv hu hm
   rw[hc] at hx
   refine oB (rv:=a.eval x) ok hM hu (by rw[hv];exact hx) ?_ hn
   cases o
   cases ho
   simp only[execOp]
   generalize a.eval x=r at*
   split<;>first|rfl|exact hm.elim
  split at h
  ·rename_i i j hc
   obtain⟨rfl,rfl⟩:=vP h
   refine key _ hc rfl rfl ?_
   rw[hc] at hx
   obtain⟨C,B,_,_,e⟩:=hx
   rw[e];trivial
  ·rename_i i j k hc
   obtain⟨rfl,rfl⟩:=vP h
   refine key _ hc rfl rfl ?_
   rw[hc] at hx
   obtain⟨C,B,_,_,_,e⟩:=hx
   rw[e];trivial
  ·rename_i i j k l hc
   obtain⟨rfl,rfl⟩:=vP h
   refine key _ hc rfl rfl ?_
   rw[hc] at hx
   obtain⟨B,o,e,_⟩:=hx
   rw[e];trivial
  ·rename_i i j hc
   obtain⟨rfl,rfl⟩:=vP h
   refine key _ hc rfl rfl ?_
   rw[hc] at hx
   obtain⟨cv,e,_⟩:=hx
   rw[e];trivial
  ·exact h.elim
 ·rename_i op t x y _ ho
  cases hc:(Ws y&&Wr op) with
  |false=>
   rw[hc] at h
   exact fh (vDo hE.eq ok hM (aO x) (aO y) h) (by cases o;cases ho;rfl) hn
  |true=>
   rw[hc] at h
   rw[Bool.and_eq_true] at hc
   have mU:op=.eql∨op=.neq:=by cases op<;>first|(left;rfl)|(right;rfl)|(cases hc.2)
   split at h
   ·rename_i d cv hu j5
    split at h
    ·rename_i b hb
     obtain⟨rfl,rfl⟩:=vP h
     have hx:=aO x
     rw[j5] at hx
     have hy:a.eval y=y.lit:=by
      cases y<;>first|rfl|(cases hc.1)
     obtain⟨h1,h2⟩:=yZp (w:=w) hu hx hy hb op mU x y
     refine oB (rv:=.bool (CF op b)) ok hM rfl (show zU M (.c (.bool _)) (.bool _) from rfl) ?_ hn
     cases o
     cases ho
     show(do pure (.value (←(do eqGuard op t x y (a.eval x) (a.eval y);binOp op t (a.eval x) (a.eval y)))):Sem Next).run E.P w=_
     simp only[Sem.run_bind,h1,Result.andThen_ok,h2,Sem.run_pure]
    ·exact h.elim
   ·exact h.elim
 ·rename_i op t x ho
  exact fh (vLy ok hM (aO x) h) (by cases o;cases ho;rfl) hn
 ·rename_i s d x ho
  split at h
  ·rename_i k1 k k2 n hs hd hx
   obtain⟨rfl,rfl⟩:=vP h
   have j6:=aO x
   rw[hx] at j6
   have j6:a.eval x=.int k2 n:=j6
   refine oB (rv:=.int k (k.wrap n)) ok hM rfl (show zU M (.c (.int _ _)) (.int _ _) from rfl) ?_ hn
   cases o
   cases ho
   show(do pure (.value (←convert s d (a.eval x))):Sem Next).run E.P w=_
   simp[convert,run_underlying hs,run_underlying hd,j6,Conv.intToInt]
  ·rename_i e c hs hd hx
   split at h
   ·rename_i xs he Dt
    obtain⟨rfl,rfl⟩:=vP h
    have j6:=aO x
    rw[hx] at j6
    obtain⟨A,n,k,e1,e2⟩:=vA8 (P:=E.P) (w:=w) ok j6 Dt hM
    refine oB (rv:=.string ⟨(kE xs).toArray⟩) ok hM rfl (show zU M (.c (.str xs)) _ from rfl) ?_ hn
    cases o
    cases ho
    show(do pure (.value (←convert s d (a.eval x))):Sem Next).run E.P w=_
    rw[e1] at e2⊢
    simp only[Sem.run_bind,run_convert_bytes_string w s d e A n k hs he hd,e2,Result.andThen_ok,Sem.run_pure]
   ·exact h.elim
  ·exact h.elim
 ·rename_i f first captured ho
  cases hf:Nat.beq first.size 0 with
  |false=>rw[hf] at h;exact h.elim
  |true=>
   rw[hf] at h
   simp only[cond_true] at h
   split at h
   ·rename_i ids iu
    obtain⟨rfl,rfl⟩:=vP h
    have h0:first=#[]:=Array.eq_empty_of_size_eq_zero (by simpa using hf)
    refine oB (rv:=.func (.func f) #[] (captured.map a.eval)) ok hM rfl ?_ ?_ hn
    case refine_2=>
     cases o
     cases ho
     show(do pure (.value (←Instr.makeFunc (.func f) (first.map a.eval) (captured.map a.eval))):Sem Next).run E.P w=_
     subst h0
     simp[Instr.makeFunc]
    refine⟨_,rfl,?_⟩
    rw[Array.toList_map]
    exact XH aO (Ds _ _ _ iu)
   ·exact h.elim
 ·rename_i t l c ho
  exact fh (vEk ok hM (aO l) (aO c) h) (by cases o;cases ho;rfl) hn
 ·rename_i t ho
  exact fh (yZi ok hM h) (by cases o;cases ho;rfl) hn
 ·rename_i t x i ho
  exact fh (vE0 ok hM (aO x) (aO i) h) (by cases o;cases ho;rfl) hn
 ·rename_i t x i y ho
  obtain⟨rfl,hr⟩:=vK2 ok hM (aO x) (aO i) (aO y) h
  exact XF hr (by cases o;cases ho;rfl) hn
 ·rename_i t x lo hi mx ho
  have hO:∀y:Option Operand,xW M (y.map ev) (y.map a.eval):=fun y=>by
   cases y with
   |none=>trivial
   |some y=>exact aO y
  exact fh (yY1 ok hM (aO x) (hO lo) (hO hi) (hO mx) h) (by cases o;cases ho;rfl) hn
 ·rename_i t x f ho
  exact fh (vIq ok hM (aO x) h) (by cases o;cases ho;rfl) hn
 ·rename_i t x f ho
  exact fh (vAp ok hM (aO x) h) (by cases o;cases ho;rfl) hn
 ·rename_i t x i ho
  exact fh (vIi ok hM (aO x) (aO i) h) (by cases o;cases ho;rfl) hn
 ·rename_i t x i ho
  exact fh (yZm ok hM (aO x) (aO i) h) (by cases o;cases ho;rfl) hn
 ·rename_i t i ho
  have ht:=aO t
  split at h
  ·rename_i xs Dt
   rw[Dt] at ht
   obtain⟨vs,dz,bn⟩:=ht
   split at h
   ·rename_i g cs hi
    obtain⟨hp,rfl⟩:=MU h
    have hl:=bn.length
    have aV:i<xs.length:=by
     rcases Nat.lt_or_ge i xs.length with h|h
     ·exact h
     ·rw[List.getElem?_eq_none h] at hi;cases hi
    have eG:i<vs.size:=by simp at hl;omega
    have hc:=bn.get i aV (by simpa using eG)
    rw[List.getElem?_eq_getElem aV,Option.some.injEq] at hi
    rw[hi] at hc
    refine oB (rv:=vs[i]) ok hM rfl ?_ ?_ hn
    ·rcases MX hp with⟨e1,rfl⟩|⟨e1,c,rfl,rfl⟩
     ·cases e1;exact hc
     ·cases e1;exact hc
    ·cases o
     cases ho
     show(do pure (.value (←Instr.extract (a.eval t) i)):Sem Next).run E.P w=_
     rw[dz]
     simp[Instr.extract,eG]
   ·exact h.elim
  ·exact h.elim
 ·rename_i c ho
  have cJ:=XI aO c.args.toList
  have exec:∀b,c.callee=.builtin b→∀s:Sem Value,(∀C,Go.builtin b c.argTypes o.type C (c.args.map a.eval)=(do pure (.value (←s)):Sem Next))→execOp a.eval o=(do pure (.value (←s)):Sem Next):=fun b hb s hs=>by
   cases o
   cases ho
   show(do let d←resolve a.eval c _;invoke d.target d.args:Sem Next)=_
   unfold resolve
   rw[hb]
   exact hs _
  have iw:c.args.map a.eval=(c.args.toList.map a.eval).toArray:=by cases c.args;simp
  split at h
  ·rename_i b ix
   unfold MH at h
   split at h
   ·split at h
    case h_2=>exact h.elim
    rename_i x hx
    have h1:∃rx,(c.args.toList.map a.eval).toArray=#[rx]∧zW M x rx:=by
     rw[hx] at cJ
     match hl:c.args.toList.map a.eval,cJ with
     |[rx],hh=>exact⟨rx,rfl,hh.1⟩
    obtain⟨rx,uG,j6⟩:=h1
    split at h
    ·rename_i e hu
     split at h
     ·rename_i n hlen
      obtain⟨rfl,rfl⟩:=vP h
      obtain⟨t,ht,hu⟩:=Option.bind_eq_some_iff.1 hu
      obtain⟨A,k,rfl⟩:=ySi ok j6 hlen
      refine fh (s:=Builtin.len_ c.argTypes o.type (c.args.map a.eval)) ?_ (exec _ ix _ fun _=>rfl) hn
      rw[iw,uG]
      exact .pure ok hM (vG8 ht hu) rfl
     ·exact h.elim
    ·exact h.elim
   ·split at h
    case h_2=>exact h.elim
    rename_i b x hx
    have h1:∃rb rx,(c.args.toList.map a.eval).toArray=#[rb,rx]∧zU M b rb∧zU M x rx:=by
     rw[hx] at cJ
     match hl:c.args.toList.map a.eval,cJ with
     |[rb,rx],hh=>exact⟨rb,rx,rfl,hh.1,hh.2.1⟩
    obtain⟨rb,rx,uG,NR,j6⟩:=h1
    split at h
    ·rename_i t t' hts
     obtain⟨htt,h'⟩:=uD h
     have:t=t':=by simpa using htt
     subst this
     refine fh (s:=Builtin.append_ c.argTypes o.type (c.args.map a.eval)) ?_ (exec _ ix _ fun _=>rfl) hn
     have ht:c.argTypes=#[t,t]:=by
      have:=congrArg List.toArray hts
      simpa using this
     rw[iw,uG,ht]
     exact vFi ok hM NR j6 h'
    ·exact h.elim
   ·split at h
    case h_2=>exact h.elim
    rename_i d s hx
    have h1:∃rb rx,(c.args.toList.map a.eval).toArray=#[rb,rx]∧zU M d rb∧zU M s rx:=by
     rw[hx] at cJ
     match hl:c.args.toList.map a.eval,cJ with
     |[rb,rx],hh=>exact⟨rb,rx,rfl,hh.1,hh.2.1⟩
    obtain⟨rb,rx,uG,NR,j6⟩:=h1
    split at h
    ·rename_i e hu
     obtain⟨NS,h⟩:=uD h
     obtain⟨t,ht,hu⟩:=Option.bind_eq_some_iff.1 hu
     refine fh (s:=Builtin.copy_ c.argTypes o.type (c.args.map a.eval)) ?_ (exec _ ix _ fun _=>rfl) hn
     rw[iw,uG]
     exact yZ6 ok hM ht hu (by simpa using NS) NR j6 h
    ·exact h.elim
   ·split at h
    case h_2=>exact h.elim
    rename_i id lo n hx
    have h1:∃rx,(c.args.toList.map a.eval).toArray=#[rx]∧zW M (.osl id (some (lo,n))) rx:=by
     rw[hx] at cJ
     match hl:c.args.toList.map a.eval,cJ with
     |[rx],hh=>exact⟨rx,rfl,hh.1⟩
    obtain⟨rx,uG,j6⟩:=h1
    split at h
    ·rename_i t ht
     refine fh (s:=Builtin.clear_ c.argTypes o.type (c.args.map a.eval)) ?_ (exec _ ix _ fun _=>rfl) hn
     rw[iw,uG]
     obtain⟨rv,w',M',q1,q2⟩:=vJ3 (T:=o.type) ok hM j6 h
     refine⟨rv,w',M',?_,q2⟩
     have e:(Builtin.clear_ c.argTypes o.type #[rx]).run E.P w=(Builtin.clear_ #[t] o.type #[rx]).run E.P w:=by
      simp only[Builtin.clear_,ht]
      rfl
     rw[e];exact q1
    ·exact h.elim
   ·refine fh (s:=Builtin.max_ c.argTypes o.type (c.args.map a.eval)) ?_ (exec _ ix _ fun _=>rfl) hn
    rw[iw]
    exact Xv (lt:=false) (ts:=c.argTypes) (T:=o.type) ok hM cJ h
   ·refine fh (s:=Builtin.min_ c.argTypes o.type (c.args.map a.eval)) ?_ (exec _ ix _ fun _=>rfl) hn
    rw[iw]
    exact Xv (lt:=true) (ts:=c.argTypes) (T:=o.type) ok hM cJ h
   ·exact h.elim
  ·rename_i f ix
   split at h
   ·rename_i NT cap hf
    have XJ:=aO f
    rw[hf] at XJ
    obtain⟨cv,j5,Du⟩:=XJ
    have bn:zP (zU M) (c.args.toList.map ev++cap.map fun id=>.c (.ptr id 0)) (c.args.map a.eval++cv).toList:=by
     rw[Array.toList_append,Array.toList_map]
     exact cJ.append (zP.map_left Du)
    have G6:(execOp a.eval o).run E.P w=(callFunc NT (c.args.map a.eval++cv)).run E.P w:=by
     cases o
     cases ho
     show(do let d←resolve a.eval c _;invoke d.target d.args:Sem Next).run E.P w=_
     unfold resolve
     rw[ix]
     simp only[j5,Deferred.ofValue,Sem.run_bind,Sem.run_pure,Result.andThen_ok,invoke,Array.empty_append]
    rcases hE.sums k _ NT _ M.h v u h M w _ rfl hM ok bn with⟨h1,h2⟩|⟨rv,w',M',h1,hB,hv⟩
    case inr=>
     unfold Oper.wp
     rw[G6,h1]
     exact hn M' w' rv hB hv
    unfold Oper.wp
    rw[G6,h1,Oper.upon_enter]
    refine Calls.mono h2 fun e w' he=>?_
    cases e with
    |returned rv=>
     obtain⟨M',hB,hv⟩:=he
     exact hn M' w' rv hB hv
    |panicked _=>exact he.elim
    |outgrown=>exact he.elim
   ·exact h.elim
  ·exact h.elim
 ·exact h.elim
section
variable {P:Program} {h h':Hp}
theorem vD9 {t:TypeId}{a:zD}(hh:∀id∈yL a,h id=h' id):xw P h t a=xw P h' t a:=by
 unfold xw
 cases a with
 |c v=>cases v<;>first|rfl|(have:=hh _ (List.mem_singleton.2 rfl);simp only[this])
 |_=>rfl
theorem XK {v:zG}(hh:∀id∈vA v,h id=h' id):ma h v=ma h' v:=by
 unfold ma
 cases v<;>first|rfl|(have:=hh _ (List.mem_singleton.2 rfl);simp only[this])
theorem NU:∀{vs:List zG},(∀id∈vs.flatMap vA,h id=h' id)→lq h vs=lq h' vs
 |[],_=>rfl
 |v::vs,hh=>by
  simp only[List.flatMap_cons,List.mem_append] at hh
  unfold lq
  rw[XK fun id hi=>hh id (.inl hi),NU fun id hi=>hh id (.inr hi)]
theorem XM {v:zD}{vs:List zG}(e:l9 v=some vs):vs.flatMap vA=yL v:=by
 unfold l9 at e
 split at e
 ·cases e;simp[yL]
 ·cases e;rfl
 ·cases e
theorem vA5 {t:TypeId}{a v:zD}(ha:∀id∈yL a,h id=h' id)(hv:∀id∈yL v,h id=h' id):xx P h t a v=xx P h' t a v:=by
 unfold xx
 cases e:l9 v with
 |none=>rfl
 |some vs=>
  have hf:lq h vs=lq h' vs:=NU (by rw[XM e];exact hv)
  cases a with
  |c x=>
   cases x with
   |mptr id i=>
    have h1:=ha _ (List.mem_singleton.2 rfl)
    simp only[h1]
    generalize h' id=ob
    rcases ob with _|(_|_|_|_|_|_|_)<;>first|rfl|skip
    all_goals cases v with
    |c y=>cases y with
     |osl jd r=>cases r with
      |none=>
       have h2:=hv _ (List.mem_singleton.2 rfl)
       simp only[h2]
      |some _=>rfl
     |_=>rfl
    |_=>rfl
   |ptr id off=>
    have h1:=ha _ (List.mem_singleton.2 rfl)
    simp only[h1]
   |eptr id i off=>
    have h1:=ha _ (List.mem_singleton.2 rfl)
    simp only[h1,hf]
   |meptr id i j ver=>
    have h1:=ha _ (List.mem_singleton.2 rfl)
    simp only[h1]
   |_=>rfl
  |_=>rfl
theorem Hg {v:zG}(hh:∀id∈vA v,h id=h' id):ig h v=ig h' v:=by
 unfold ig
 cases v<;>first|rfl|(have:=hh _ (List.mem_singleton.2 rfl);simp only[this])
theorem vCg {v:zG}(hh:∀id∈vA v,h id=h' id):xu h v=xu h' v:=by
 have e:=Hg hh
 unfold xu
 cases v<;>first|rfl|simp only[e]
theorem ySn {t:TypeId}{x i:zD}(hh:∀id∈yL x,h id=h' id):xy P h t x i=xy P h' t x i:=by
 unfold xy
 generalize P.underlying t=d
 rcases d with _|d
 ·rfl
 ·cases d with
  |slice e=>
   cases x with
   |c v=>
    cases i with
    |c iv=>
     cases iv with
     |int k n=>cases v<;>first|rfl|(have:=hh _ (List.mem_singleton.2 rfl);simp only[this])
     |_=>cases v<;>rfl
    |_=>cases v<;>rfl
   |_=>rfl
  |array n e=>
   cases x with
   |c v=>
    cases v<;>cases i<;>first|rfl|(rename_i iv;cases iv<;>rfl)
   |_=>rfl
  |_=>rfl
theorem yVz {nm:Nat}{t:TypeId}(h0:h nm=h' nm):xB P nm h t=xB P nm h' t:=by
 unfold xB
 rw[h0]
theorem vG7 {t:TypeId}{x i:zD}(hh:∀id∈yL x,h id=h' id):xC P h t x i=xC P h' t x i:=by
 unfold xC
 split
 ·rename_i id n
  rw[hh id (by simp[yL,vA])]
 ·rfl
theorem vBq {t:TypeId}{x i y:zD}(hh:∀id∈yL x,h id=h' id):xD P h t x i y=xD P h' t x i y:=by
 unfold xD
 split
 ·rename_i id n b
  rw[hh id (by simp[yL,vA])]
 ·rfl
theorem vEt {t:TypeId}{x:zD}{lo hi mx:Option zD}(hh:∀id∈yL x,h id=h' id):xE P h t x lo hi mx=xE P h' t x lo hi mx:=by
 unfold xE
 split
 ·rfl
 ·rename_i id r _
  rw[hh id (by simp[yL,vA])]
 ·rename_i id _
  rw[hh id (by simp[yL,vA])]
 ·rename_i id off _
  rw[hh id (by simp[yL,vA])]
 ·rfl
theorem vK6 {v:zD}(hh:∀id∈yL v,h id=h' id):uf h v=uf h' v:=by
 unfold uf
 cases v with
 |c v=>cases v with
  |osl jd r=>cases r with
   |none=>
    have h2:=hh _ (List.mem_singleton.2 rfl)
    simp only[h2]
   |some _=>rfl
  |_=>rfl
 |_=>rfl
theorem XN:∀{parts:List (Nat×zD)} {rows:List (List Int)},(∀id∈(parts.map (·.2)).flatMap yL,h id=h' id)→ug h rows parts=ug h' rows parts
 |[],_,_=>rfl
 |(i,v)::rest,rows,hh=>by
  simp only[List.map_cons,List.flatMap_cons,List.mem_append] at hh
  unfold ug
  rw[vK6 fun id hi=>hh id (.inl hi)]
  cases uf h' v with
  |none=>rfl
  |some p=>simp only[XN fun id hi=>hh id (.inr hi)]
theorem NV {t:Ty}:∀{parts:List (Nat×zD)} {xs:List t.den},(∀id∈(parts.map (·.2)).flatMap yL,h id=h' id)→mb h t xs parts=mb h' t xs parts
 |[],_,_=>rfl
 |(i,v)::rest,xs,hh=>by
  simp only[List.map_cons,List.flatMap_cons,List.mem_append] at hh
  unfold mb
  cases e:l9 v with
  |none=>rfl
  |some vs=>
   have hf:lq h vs=lq h' vs:=NU (by rw[XM e];exact fun id hi=>hh id (.inl hi))
   simp only[hf]
   cases lq h' vs with
   |none=>rfl
   |some p=>
    dsimp only
    cases CD t p.1 with
    |none=>rfl
    |some x=>simp only[NV fun id hi=>hh id (.inr hi)]
theorem vF6 {mat:Bool}{nm:Nat}{t:TypeId}{n:Nat}{parts:List (Nat×zD)}(h0:h nm=h' nm)(hh:∀id∈(parts.map (·.2)).flatMap yL,h id=h' id):
  xz P mat nm h t n parts=xz P mat nm h' t n parts:=by
 have e:(fun ty=>mb h ty (List.replicate n ty.dflt) parts)=fun ty=>mb h' ty (List.replicate n ty.dflt) parts:=funext fun ty=>NV hh
 have e':∀ty:Ty,mb h ty (List.replicate n ty.dflt) parts=mb h' ty (List.replicate n ty.dflt) parts:=fun ty=>NV hh
 unfold xz
 rw[h0,XN hh]
 simp only[e']
theorem ySg {mat:Bool}{nm:Nat}{t:TypeId}{l c:zD}(h0:h nm=h' nm):xA P mat nm h t l c=xA P mat nm h' t l c:=by
 unfold xA
 rw[h0]
theorem vJ8 {t:Ty}{v:zG}(hh:∀id∈vA v,h id=h' id):pB h t v=pB h' t v:=by
 unfold pB
 cases v with
 |osl id r=>
  have:=hh _ (List.mem_singleton.2 rfl)
  simp only[this]
 |_=>rfl
theorem vL6 {mat:Bool}{nm:Nat}{t:TypeId}{b x:zD}(h0:h nm=h' nm)(hb:∀id∈yL b,h id=h' id)(hx:∀id∈yL x,h id=h' id):xF P mat nm h t b x=xF P mat nm h' t b x:=by
 unfold xF
 rw[h0]
 generalize P.underlying t=d
 rcases d with _|d
 ·rfl
 cases d with
 |slice e=>
  generalize h' nm=on
  cases on with
  |some _=>rfl
  |none=>
   cases b with
   |c b=>
    cases x with
    |c x=>
     have ht:∀ty,pB h ty x=pB h' ty x:=fun ty=>vJ8 hx
     simp only[ht]
     cases b with
     |osl id r=>
      have h1:=hb _ (List.mem_singleton.2 rfl)
      simp only[h1]
      cases x with
      |osl jd r2=>
       have h2:=hx _ (List.mem_singleton.2 rfl)
       cases mat with
       |false=>rfl
       |true=>
        generalize gO P e=et
        rcases et with _|(_|_|_|_)<;>first|rfl|skip
        rename_i t2
        cases t2<;>first|rfl|skip
        rename_i k
        cases k<;>cases r<;>cases r2<;>first|rfl|simp only[h1,h2]
      |_=>cases mat with
       |false=>rfl
       |true=>
        generalize gO P e=et
        rcases et with _|(_|_|_|_)<;>first|rfl|skip
        rename_i t2
        cases t2<;>first|rfl|skip
        rename_i k
        cases k<;>cases r<;>rfl
     |_=>cases mat with
      |false=>rfl
      |true=>
       generalize gO P e=et
       rcases et with _|(_|_|_|_)<;>first|rfl|skip
       rename_i t2
       cases t2<;>first|rfl|skip
       rename_i k
       cases k<;>rfl
    |_=>rfl
   |_=>rfl
 |_=>rfl
theorem vEd {d s:zD}(hd:∀id∈yL d,h id=h' id)(hs:∀id∈yL s,h id=h' id):xG h d s=xG h' d s:=by
 unfold xG
 cases d with
 |c d=>
  cases s with
  |c s=>
   cases d with
   |bsl id off n=>
    have h1:=hd _ (List.mem_singleton.2 rfl)
    have h2:ig h s=ig h' s:=Hg hs
    simp only[h1]
    cases s<;>first|rfl|simp only[h2]
   |_=>rfl
  |_=>cases d<;>rfl
 |_=>rfl
end
theorem vCa {E:qE}{A:qB}{k pre:Nat}{o:Oper}{ev pV:Operand→zD}{h:Hp}(he:∀x∈o.op.operands,ev x=pV x):iX E A k pre o ev h=iX E A k pre o pV h:=by
 obtain⟨dst,op,type,pos,after,guard⟩:=o
 have fE:∀ps:Array (Nat×Operand),(∀x∈ps.map (·.2),ev x=pV x)→(ps.toList.map fun p=>(p.1,ev p.2))=(ps.toList.map fun p=>(p.1,pV p.2)):=fun ps hp=>
  List.map_congr_left fun p hm=>by
   obtain⟨i,x⟩:=p
   simp only[hp x (Array.mem_map.2 ⟨(i,x),by simpa using hm,rfl⟩)]
 have maps:∀xs:Array Operand,(∀x∈xs,ev x=pV x)→xs.toList.map ev=xs.toList.map pV:=fun xs hp=>List.map_congr_left fun x hm=>hp x (by simpa using hm)
 cases op<;>simp only[Op.operands] at he<;>simp only[iX]
 case build t ps=>rw[fE ps fun x hx=>he x (by simpa using hx)]
 case buildSlice t n ps=>rw[fE ps fun x hx=>he x (by simpa using hx)]
 case makeFunc fn first captured=>
  cases fn<;>first|rfl|skip
  have:captured.toList.mapM (fun x=>rZ (ev x))=captured.toList.mapM (fun x=>rZ (pV x)):=by
   have h2:∀l:List Operand,(∀x∈l,ev x=pV x)→l.mapM (fun x=>rZ (ev x))=l.mapM (fun x=>rZ (pV x)):=fun l=>by
    induction l with
    |nil=>exact fun _=>rfl
    |cons y l ih=>exact fun hp=>by simp only[List.mapM_cons,hp y (List.mem_cons_self ..),ih fun x hx=>hp x (List.mem_cons_of_mem _ hx)]
   exact h2 _ fun x hx=>he x (by simp at hx;simp[hx])
  simp only[this]
 case call c=>
  obtain⟨callee,args,XO⟩:=c
  have ha:=maps args fun x hx=>he x (by simp[Call.operands,hx])
  cases callee with
  |value f=>
   have hf:=he f (by simp[Call.operands])
   simp only[hf,ha]
  |builtin b=>simp only[ha]
  |invoke _ _=>rfl
 case makeMap t r=>cases r<;>rfl
 case lookup t x i ok=>cases ok<;>simp_all
 case slice t x lo hi mx=>
  have h1:=he x (by simp)
  cases lo<;>cases hi<;>cases mx<;>simp_all
 all_goals (first|rfl|(simp only[he _ (by simp:_∈#[_])];done)|(simp_all;done))
def gV (S:Gt):Prop:=∀k nm f (args:List zD) h h',(args.any yW=false→∀id,(id∈args.flatMap yL∨lv nm id=true)→h id=h' id)→(args.any yW=true→h=h')→S k nm f args h=S k nm f args h'
theorem yXr (nm:Nat):lv nm nm=true:=by
 simp[lv,Nat.blt_eq]
theorem vGg {E:qE}(hS:gV E.sums){A:qB}{k pre:Nat}{o:Oper}{ev:Operand→zD}{h h':Hp}
  (hh:match oh ev o with|none=>h=h'|some l=>∀id,(id∈l∨lv (og pre o.dst) id=true)→h id=h' id):iX E A k pre o ev h=iX E A k pre o ev h':=by
 have full:h=h'→iX E A k pre o ev h=iX E A k pre o ev h':=fun e=>by rw[e]
 unfold oh at hh
 dsimp only at hh
 cases hq:Wt o.op with
 |true=>
  obtain⟨dst,op,type,pos,after,guard⟩:=o
  cases op<;>first|rfl|cases hq
 |false=>
 rw[hq] at hh
 simp only[cond_false] at hh
 cases hc:(MI o.op&&(o.op.operands.toList.map ev).any yW) with
 |true=>rw[hc] at hh;exact full hh
 |false=>
  rw[hc] at hh
  replace hh:∀id,(id∈(o.op.operands.toList.map ev).flatMap yL∨lv (og pre o.dst) id=true)→h id=h' id:=hh
  have h0:h (og pre o.dst)=h' (og pre o.dst):=hh _ (.inr (yXr _))
  have hx:∀x∈o.op.operands,∀id∈yL (ev x),h id=h' id:=fun x hx id aa=>hh id (.inl (List.mem_flatMap.2 ⟨ev x,List.mem_map_of_mem (by simpa using hx),aa⟩))
  obtain⟨dst,op,type,pos,after,guard⟩:=o
  dsimp only at h0 hx hc
  cases op<;>simp only[Op.operands] at hx<;>simp only[iX]
  case alloc t=>rw[h0]
  case box t x=>rw[h0]
  case buildSlice t n ps=>
   exact vF6 h0 fun id aa=>by
    simp only[List.map_map,List.mem_flatMap,List.mem_map,Function.comp] at aa
    obtain⟨v,⟨p,hp,rfl⟩,aa⟩:=aa
    exact hx p.2 (by simp only[List.mem_toArray,List.mem_map];exact⟨p,hp,rfl⟩) id aa
  case load t x=>exact vD9 (hx x (by simp))
  case store t x y=>exact vA5 (hx x (by simp)) (hx y (by simp))
  case makeSlice t l c=>exact ySg h0
  case slice t x lo hi mx=>exact vEt (hx x (by simp))
  case makeMap t r=>cases r<;>first|rfl|exact yVz h0
  case lookup t x i ok=>cases ok<;>first|rfl|exact vG7 (hx x (by simp))
  case mapUpdate t x i y=>exact vBq (hx x (by simp))
  case indexAddr t x i=>exact ySn (hx x (by simp))
  case convert s d x=>
   have hx:=hx x (by simp)
   have hs:∀v,ev x=.c v→xr h v=xr h' v:=fun v e=>by
    have:=Hg (h:=h) (h':=h') (v:=v) fun id aa=>hx id (by rw[e];exact aa)
    unfold xr
    cases v<;>first|rfl|simp only[this]
   split
   ·rfl
   ·rename_i e c _ _ hc
    rw[hs c hc]
   ·rfl
  case call c=>
   obtain⟨callee,args,XO⟩:=c
   have ha:∀v∈args.toList.map ev,∀id∈yL v,h id=h' id:=fun v hv=>by
    obtain⟨x,uH,rfl⟩:=List.mem_map.1 hv
    exact hx x (by simp at uH;simp[Call.operands,uH])
   cases callee with
   |value f=>
    dsimp only
    cases hf:ev f with
    |c fv=>cases fv with
     |fn NT cap=>
      dsimp only
      simp only[MI,Bool.true_and] at hc
      have gh:cap=[]:=by
       have hm:ev f∈(Op.call ⟨.value f,args,XO⟩).operands.toList.map ev:=List.mem_map_of_mem (by simp[Op.operands,Call.operands])
       have:=List.any_eq_false.1 hc _ hm
       rw[hf] at this
       simpa[yW] using this
      subst gh
      simp only[List.map_nil,List.append_nil]
      have hb:(args.toList.map ev).any yW=false:=by
       refine List.any_eq_false.2 fun v hv=>?_
       obtain⟨x,uH,rfl⟩:=List.mem_map.1 hv
       exact List.any_eq_false.1 hc _ (List.mem_map_of_mem (by simp at uH;simp[Op.operands,Call.operands,uH]))
      refine hS _ _ _ _ _ _ (fun _ id aa=>?_) fun ht=>?_
      ·rcases aa with aa|aa
       ·obtain⟨v,hv,aa⟩:=List.mem_flatMap.1 aa
        exact ha v hv id aa
       ·exact hh id (.inr aa)
      ·rw[hb] at ht;cases ht
     |_=>rfl
    |_=>rfl
   |invoke _ _=>rfl
   |builtin b=>
    generalize hl:args.toList.map ev=l at ha
    unfold MH
    cases b<;>first|rfl|skip
    case len=>
     match l,ha with
     |[],_=>rfl
     |[v],ha=>cases v with
      |c v=>
       have:=vCg (ha (.c v) (by simp))
       simp only[this]
      |_=>rfl
     |v::_::_,_=>cases v<;>rfl
    case append=>
     match l,ha with
     |[],_|[_],_|_::_::_::_,_=>rfl
     |[b,x],ha=>
      have:=fun mat t=>vL6 (P:=E.P) (mat:=mat) (t:=t) h0 (ha b (by simp)) (ha x (by simp))
      simp only[this]
    case clear=>
     match l,ha with
     |[],_=>rfl
     |[v],ha=>cases v with
      |c v=>cases v with
       |osl id r=>cases r with
        |none=>rfl
        |some p=>
         have e:=ha (.c (.osl id (some p))) (by simp) id (by simp[yL,vA])
         dsimp only
         split
         ·unfold Gr;rw[e]
         ·rfl
       |_=>rfl
      |_=>rfl
     |v::_::_,_=>cases v with
      |c v=>cases v with
       |osl id r=>cases r<;>rfl
       |_=>rfl
      |_=>rfl
    case copy=>
     match l,ha with
     |[],_|[_],_|_::_::_::_,_=>rfl
     |[b,x],ha=>
      have:=vEd (ha b (by simp)) (ha x (by simp))
      simp only[this]
  case makeFunc fn first captured=>cases fn<;>rfl
  all_goals rfl
end Go.Ab
set_option linter.unusedSectionVars false
namespace Go.Ab
structure gW (M M':zB):Prop where
 F:∀b,M.F b→M'.F b
 G:∀b,M.G b→M'.G b
 same:∀b,M.F b→M'.H[b]? =M.H[b]?
 sameG:∀b,M.G b→M'.H[b]? =M.H[b]?
 bsz:∀b,b<M.H.size→qX M'.H b=qX M.H b
 size:M.H.size≤M'.H.size
 frame:∀b,b<M.H.size→¬qR M b→M'.H[b]? =M.H[b]?
 own:∀b,qR M' b→b<M.H.size→qR M b
 Gb:∀b,M'.G b→b<M.H.size→M.G b∨qR M b
 Fb:∀b,M'.F b→b<M.H.size→M.F b∨qR M b
theorem yT.grow {M M':zB}(s:yT M M'):gW M M':=⟨s.ext.F,s.ext.G,s.ext.same,s.ext.sameG,s.ext.bsz,s.size,s.frame,s.own,s.Gb,s.Fb⟩
theorem gW.trans {M M' kH:zB}(x:gW M M')(y:gW M' kH):gW M kH where
 F b h:=y.F b (x.F b h)
 G b h:=y.G b (x.G b h)
 same b h:=(y.same b (x.F b h)).trans (x.same b h)
 sameG b h:=(y.sameG b (x.G b h)).trans (x.sameG b h)
 bsz b h:=(y.bsz b (by have:=x.size;omega)).trans (x.bsz b h)
 size:=Nat.le_trans x.size y.size
 frame b h hn:=by
  have:=x.size
  rw[y.frame b (by omega) fun ho=>hn (x.own b ho h),x.frame b h hn]
 own b ho h:=x.own b (y.own b ho (by have:=x.size;omega)) h
 Gb b hg h:=by
  rcases y.Gb b hg (by have:=x.size;omega) with k|k
  ·exact x.Gb b k h
  ·exact .inr (x.own b k h)
 Fb b hg h:=by
  rcases y.Fb b hg (by have:=x.size;omega) with k|k
  ·exact x.Fb b k h
  ·exact .inr (x.own b k h)
def Hh (M M':zB):Prop:=∀id C,M.κ id=some C→∃C',M'.κ id=some C'∧C'.blk=C.blk
structure pW (nl:Bool) (M M':zB):Prop where
 g:gW M M'
 k:nl=true→Hh M M'
theorem pW.step {nl:Bool}{M M' kH:zB}(x:pW nl M M')(s:yT M' kH):pW nl M kH:=
 ⟨x.g.trans s.grow,fun h id C hC=>by
  obtain⟨C1,h1,e1⟩:=x.k h id C hC
  obtain⟨C2,h2,le⟩:=s.ext.κ id C1 h1
  exact⟨C2,h2,le.blk.trans e1⟩⟩
theorem pW.trans {M M' kH:zB}(x:pW false M M')(y:gW M' kH):pW false M kH:=⟨x.g.trans y,fun h=>by cases h⟩
structure vG (nl:Bool) (na nt:Nat) (a0:Nat→Value) (M0:zB) (w0:World) (st:St) (a:Act) (w:World):Prop where
 ex:∃M:zB,M.h=st.h∧M.H=w.heap∧Ok M∧pW nl M0 M∧∀t,zU M (st.t t) (a.tmps.getD t undef)
 defers:a.defers=[]
 size:a.tmps.size=nt
 os:w.os=w0.os
 tape:w.tape=w0.tape
 output:w.output=w0.output
 keep:∀t,t<na→a.tmps.getD t undef=a0 t
theorem XP {M:zB}{st:St}{a:Act}(h:∀t,zU M (st.t t) (a.tmps.getD t undef))(x:Operand):zU M (st.ev x) (a.eval x):=by
 cases x with
 |tmp t=>exact h t
 |const v=>exact vL0 M v
 |global g=>trivial
 |func f=>exact⟨#[],rfl,trivial⟩
theorem NW {t:Nat→zD}{s:Nat}{v:zD}(h:t s=v):wX t s v=t:=by
 funext n
 unfold wX
 cases e:Nat.beq n s with
 |false=>rfl
 |true=>
  have:n=s:=by simpa using e
  rw[this,h];rfl
def yf (ops:Array Oper)(o:Oper)(st:St):Option Bool:=match o.guard with
 |none=>some true
 |some (j,want)=>match Gz ops j with
  |none=>none
  |some s=>match st.t s with
   |.c (.bool b)=>some (b==want)
   |.skp=>some false
   |_=>none
theorem XQ {R:Type}{ops:Array Oper}{o:Oper}{st:St}{yes no:St→Option R}{out:R}(h:GA ops o st yes no=some out):
  ∃b,yf ops o st=some b∧(if b=true then yes st else no st)=some out:=by
 unfold GA at h
 unfold yf
 cases hg:o.guard with
 |none=>rw[hg] at h;exact⟨true,rfl,h⟩
 |some p=>
  obtain⟨j,want⟩:=p
  rw[hg] at h
  dsimp only at h⊢
  cases hs:Gz ops j with
  |none=>rw[hs] at h;cases h
  |some s=>
   rw[hs] at h
   dsimp only at h⊢
   split at h
   ·rename_i b hb
    rw[hb]
    refine⟨b==want,rfl,?_⟩
    cases b with
    |true=>
     simp only[cond_true,NW hb] at h
     cases want<;>exact h
    |false=>
     simp only[cond_false,NW hb] at h
     cases want<;>exact h
   ·rename_i hb
    rw[hb]
    exact⟨false,rfl,h⟩
   ·cases h
theorem getD_some {a:Array Value}{s:Nat}{v:Value}(h:a.getD s undef=v)(hv:v≠undef):a[s]? =some v:=by
 by_cases hs:s<a.size
 ·simp[Array.getD,hs] at h⊢;exact h
 ·simp[Array.getD,hs] at h
  exact absurd h.symm hv
theorem XR {ops:Array Oper}{o:Oper}{st:St}{b:Bool}{nl:Bool}{na nt:Nat}{a0:Nat→Value}{M0:zB}{w0 w:World}{a:Act}(h:yf ops o st=some b)(R:vG nl na nt a0 M0 w0 st a w):Region.wanted o (yielded ops a.tmps)=b:=by
 obtain⟨M,_,_,_,_,ht⟩:=R.ex
 unfold yf at h
 unfold Region.wanted
 split at h
 ·rename_i hg
  rw[hg];cases h;rfl
 ·rename_i j want hg
  rw[hg]
  split at h
  ·cases h
  ·rename_i s hs
   have hv:=ht s
   have uI:(ops[j]?).bind (·.dst)=some s:=hs
   split at h
   ·rename_i b' hb
    cases h
    rw[hb] at hv
    have hv:a.tmps.getD s undef=.bool b':=hv
    have:=getD_some hv (by simp[undef])
    simp only[yielded,uI,Option.bind_some,this]
    cases b'<;>cases want<;>rfl
   ·rename_i hb
    cases h
    rw[hb] at hv
    have hv:a.tmps.getD s undef=undef:=hv
    simp only[yielded,uI,Option.bind_some]
    have:∀x:Option Value,(x=none∨x=some undef)→((match x with|some (.bool b)=>some b|_=>none:Option Bool)==some want)=false:=fun x hx=>by
     rcases hx with rfl|rfl<;>cases want<;>rfl
    refine this _ ?_
    by_cases aV:s<a.tmps.size
    ·right
     simp[Array.getD,aV] at hv⊢
     exact hv
    ·left;simp;omega
   ·cases h
theorem pS.rel {nl:Bool}{na nt:Nat}{a0:Nat→Value}{M0 M M':zB}{w0 w w':World}{st:St}{a:Act}{dst:Option Nat}{v:zD}{u:zZ}{rv:Value}(R:vG nl na nt a0 M0 w0 st a w)(hh:M.h=st.h)(hs:pW nl M0 M)(ht:∀t,zU M (st.t t) (a.tmps.getD t undef))
  (hd:∀d,dst=some d→na≤d∧d<nt) (hB:pS M w u M' w') (hv:zU M' v rv):vG nl na nt a0 M0 w0 {t:=gM st.t dst v,h:=qJ st.h u} (a.put dst rv) w' where
 ex:=by
  refine⟨M',by rw[hB.h,hh],hB.H,hB.ok,hs.step hB.step,fun t=>?_⟩
  cases dst with
  |none=>exact(ht t).ext hB.step.ext
  |some d=>
   show zU M' (wX st.t d v t) ((a.tmps.setIfInBounds d rv).getD t undef)
   have aV:d<a.tmps.size:=by rw[R.size];exact(hd d rfl).2
   unfold wX
   cases e:Nat.beq t d with
   |true=>
    have e:t=d:=by simpa using e
    subst e
    simp[aV]
    exact hv
   |false=>
    have e:t≠d:=fun e'=>by subst e';simp at e
    have:=(ht t).ext hB.step.ext
    simp only[Array.getD_eq_getD_getElem?,Array.getElem?_setIfInBounds_ne (Ne.symm e)] at this⊢
    exact this
 defers:=by cases dst<;>exact R.defers
 size:=by cases dst<;>simp[Act.put,R.size]
 os:=hB.os.trans R.os
 tape:=hB.tape.trans R.tape
 output:=hB.output.trans R.output
 keep t h:=by
  cases dst with
  |none=>exact R.keep t h
  |some d=>
   have bc:d≠t:=by have:=(hd d rfl).1;omega
   rw[←R.keep t h]
   simp only[Act.put,Array.getD_eq_getD_getElem?,Array.getElem?_setIfInBounds_ne bc]
theorem vG.skip {nl:Bool}{na nt:Nat}{a0:Nat→Value}{M0:zB}{w0 w:World}{st:St}{a:Act}{dst:Option Nat}(hd:∀d,dst=some d→na≤d)(R:vG nl na nt a0 M0 w0 st a w):vG nl na nt a0 M0 w0 {st with t:=gM st.t dst .skp} (a.put dst undef) w where
 ex:=by
  obtain⟨M,h1,h2,h3,h4,ht⟩:=R.ex
  refine⟨M,h1,h2,h3,h4,fun t=>?_⟩
  cases dst with
  |none=>exact ht t
  |some d=>
   show zU M (wX st.t d .skp t) ((a.tmps.setIfInBounds d undef).getD t undef)
   unfold wX
   cases e:Nat.beq t d with
   |true=>
    have e:t=d:=by simpa using e
    subst e
    show(a.tmps.setIfInBounds t undef).getD t undef=undef
    by_cases h:t<a.tmps.size<;>simp[Array.getD_eq_getD_getElem?,h]
   |false=>
    have e:t≠d:=fun e'=>by subst e';simp at e
    have:=ht t
    simp only[Array.getD_eq_getD_getElem?,Array.getElem?_setIfInBounds_ne (Ne.symm e)] at this⊢
    exact this
 defers:=by cases dst<;>exact R.defers
 size:=by cases dst<;>simp[Act.put,R.size]
 os:=R.os
 tape:=R.tape
 output:=R.output
 keep t h:=by
  cases dst with
  |none=>exact R.keep t h
  |some d=>
   have bc:d≠t:=by have:=hd d rfl;omega
   rw[←R.keep t h]
   simp only[Act.put,Array.getD_eq_getD_getElem?,Array.getElem?_setIfInBounds_ne bc]
section
variable {E:qE} {A:qB} {nl:Bool} {k pre na nt:Nat} {a0:Nat→Value} {R:Type} {M0:zB} {w0:World} {Q:Exit→Act→World→Prop}
theorem vG.op (hE:jZ E){st:St}{a:Act}{w:World}{o:Oper}{v:zD}{u:zZ}{next:Act→World→Prop}(r:vG nl na nt a0 M0 w0 st a w)(hd:∀d,o.dst=some d→na≤d∧d<nt)(hy:yI (iX E A k pre o st.ev st.h) v u)
  (hn:∀a' w',vG nl na nt a0 M0 w0 {t:=gM st.t o.dst v,h:=qJ st.h u} a' w'→next a' w'):o.wp E.P a w next Q:=by
 obtain⟨M,h1,h2,h3,h4,ht⟩:=r.ex
 rw[←h1] at hy
 exact vMb hE h3 h2 (XP ht) hy fun M' w' rv hB hv=>hn _ _ (hB.rel r h1 h4 ht hd hv)
theorem NX (hE:jZ E){dst:Option Nat}(h:pE na nt dst=true):∀d,dst=some d→na≤d∧d<nt:=fun d hd=>by
 subst hd
 simp only[pE,Bool.and_eq_true] at h
 exact⟨Nat.le_of_ble_eq_true h.1,by simpa[Nat.blt_eq] using h.2⟩
theorem XS (hE:jZ E){o:Oper}{st:St}{K:zD→zZ→St→Option R}{out:R}(h:Gy E A k pre na nt o st K=some out):
  (∀d,o.dst=some d→na≤d∧d<nt)∧∃v u,yI (iX E A k pre o st.ev st.h) v u∧K v u {t:=gM st.t o.dst v,h:=qJ st.h u}=some out:=by
 unfold Gy at h
 cases hc:pE na nt o.dst with
 |false=>rw[hc] at h;cases h
 |true=>
  rw[hc] at h
  exact⟨NX hE hc,yE.elim_some h⟩
theorem XT (hE:jZ E){ops:Array Oper}:∀(l:List (Nat×Oper)) (st:St) (K:St→Option R) (out:R) (a:Act) (w:World),(∀p∈l,ops[p.1]? =some p.2)→CM E A k pre na nt ops l st K=some out→vG nl na nt a0 M0 w0 st a w→
  (∀bJ a' w',vG nl na nt a0 M0 w0 bJ a' w'→K bJ=some out→Q .normal a' w')→wpOps E.P ops Q (l.map (·.1)) a w
 |[],st,K,out,a,w,_,h,r,hK=>hK st a w r h
 |(i,o)::rest,st,K,out,a,w,hl,h,r,hK=>by
  have ho:ops[i]? =some o:=hl (i,o) (List.mem_cons_self ..)
  have ih:=fun st K out a w=>XT hE rest st K out a w fun p hp=>hl p (List.mem_cons_of_mem _ hp)
  unfold CM at h
  obtain⟨b,hb,h⟩:=XQ h
  have hw:=XR hb r
  simp only[List.map_cons,wpOps,ho]
  cases b with
  |true=>
   rw[if_pos rfl] at h
   rw[if_pos hw]
   obtain⟨hd,v,u,hy,h⟩:=XS hE h
   exact .inl (vG.op hE r hd hy fun a' w' r'=>ih _ _ _ _ _ h r' hK)
  |false=>
   rw[if_neg (by simp)] at h
   rw[if_neg (by simp[hw])]
   cases hc:pE na nt o.dst with
   |false=>rw[hc] at h;cases h
   |true=>
    rw[hc] at h
    exact ih _ _ _ _ _ h (r.skip fun d hd=>(NX hE hc d hd).1) hK
end
def yg (o:Oper)(acc:Array Nat):Nat:=o.after.foldl (fun s e=>if Region.binds .any e then s|||2^e.on|||acc.getD e.on 0 else s) 0
theorem XU (acc:Array Nat)(i:Nat):∀(l:List Edge) (s:Nat),(l.foldl (fun s e=>if Region.binds .any e then s|||2^e.on|||acc.getD e.on 0 else s) s).testBit i=true→
  s.testBit i=true∨∃e∈l,Region.binds .any e=true∧(e.on=i∨(acc.getD e.on 0).testBit i=true)
 |[],s,h=>.inl h
 |e::l,s,h=>by
  rw[List.foldl_cons] at h
  rcases XU acc i l _ h with h|⟨e',he,h⟩
  ·split at h
   ·rename_i hb
    rw[Nat.testBit_or,Nat.testBit_or,Bool.or_eq_true,Bool.or_eq_true] at h
    rcases h with(h|h)|h
    ·exact .inl h
    ·rw[Nat.testBit_two_pow] at h
     exact .inr ⟨e,List.mem_cons_self ..,hb,.inl (by simpa using h)⟩
    ·exact .inr ⟨e,List.mem_cons_self ..,hb,.inr h⟩
   ·exact .inl h
  ·exact .inr ⟨e',List.mem_cons_of_mem _ he,h⟩
def Dv (ops:Array Oper)(acc:Array Nat):Prop:=∀j,j<acc.size→∀i,(acc.getD j 0).testBit i=true→∃o,ops[j]? =some o∧∃e∈o.after.toList,Region.binds .any e=true∧(e.on=i∨(e.on<j∧(acc.getD e.on 0).testBit i=true))
theorem yWw {ops:Array Oper}{acc:Array Nat}{o:Oper}(h:Dv ops acc)(ho:ops[acc.size]? =some o):Dv ops (acc.push (yg o acc)):=by
 have old:∀j,j<acc.size→(acc.push (yg o acc)).getD j 0=acc.getD j 0:=fun j hj=>by
  simp[Array.getD_eq_getD_getElem?,Array.getElem?_push,Nat.ne_of_lt hj]
 intro j hj i hb
 simp only[Array.size_push] at hj
 by_cases aV:j<acc.size
 ·rw[old j aV] at hb
  obtain⟨o',h1,e,h2,h3,h4⟩:=h j aV i hb
  refine⟨o',h1,e,h2,h3,?_⟩
  rcases h4 with h4|⟨h4,h5⟩
  ·exact .inl h4
  ·exact .inr ⟨h4,by rw[old _ (by omega)];exact h5⟩
 ·have e:j=acc.size:=by omega
  subst e
  rw[show(acc.push (yg o acc)).getD acc.size 0=yg o acc by simp[Array.getD_eq_getD_getElem?]] at hb
  unfold yg at hb
  rw[←Array.foldl_toList] at hb
  rcases XU acc i _ _ hb with hb|⟨e,h2,h3,h4⟩
  ·simp at hb
  ·refine⟨o,ho,e,h2,h3,?_⟩
   rcases h4 with h4|h4
   ·exact .inl h4
   ·have eG:e.on<acc.size:=by
     rcases Nat.lt_or_ge e.on acc.size with h|h
     ·exact h
     ·rw[show acc.getD e.on 0=0 by simp[Array.getD,Nat.not_lt.2 h]] at h4
      simp at h4
    exact .inr ⟨eG,by rw[old _ eG];exact h4⟩
theorem ySp (ops:Array Oper):Dv ops (Region.before ops):=by
 have key:∀(l:List Oper) (acc:Array Nat),Dv ops acc→(∀m (hm:m<l.length),ops[acc.size+m]? =some l[m])→
   Dv ops (l.foldl (fun acc o=>acc.push (yg o acc)) acc):=by
  intro l
  induction l with
  |nil=>exact fun acc h _=>h
  |cons o l ih=>
   intro acc h ho
   rw[List.foldl_cons]
   refine ih _ (yWw h (ho 0 (by simp))) fun m hm=>?_
   have:=ho (m+1) (by simp;omega)
   simp only[Array.size_push,List.getElem_cons_succ] at this⊢
   rw[←this];congr 1;omega
 have:=key ops.toList #[] (fun j hj=>by simp at hj) fun m hm=>by simp at hm⊢
 unfold Region.before
 rw[←Array.foldl_toList]
 exact this
theorem XV {ops:Array Oper}{i j:Nat}(h:lx (Region.before ops) i j=true):∃o,ops[j]? =some o∧∃e∈o.after.toList,Region.binds .any e=true∧(e.on=i∨(e.on<j∧lx (Region.before ops) i e.on=true)):=by
 unfold lx at h
 by_cases hj:j<(Region.before ops).size
 ·exact ySp ops j hj i h
 ·rw[show(Region.before ops).getD j 0=0 by simp[Array.getD,hj]] at h
  simp at h
def Dw (ops:Array Oper)(S:Nat→Bool):Prop:=∀j o,S j=true→ops[j]? =some o→∀e∈o.after.toList,Region.binds .any e=true→S e.on=true
theorem XW {ops:Array Oper}{S:Nat→Bool}(hS:Dw ops S){i:Nat}:∀(n j:Nat),j=n→lx (Region.before ops) i j=true→S j=true→S i=true:=by
 intro n
 induction n using Nat.strongRecOn with
 |_ n ih=>
  intro j hj h hs
  obtain⟨o,ho,e,he,hb,h⟩:=XV h
  have Dx:=hS j o hs ho e he hb
  rcases h with h|⟨h,hi⟩
  ·rw[←h];exact Dx
  ·exact ih e.on (by omega) e.on rfl hi Dx
theorem vMl {ops:Array Oper}{S:Nat→Bool}(hS:Dw ops S){i j:Nat}(h:lx (Region.before ops) i j=true)(hr:∀o,ops[j]? =some o→∀e∈o.after.toList,Region.binds .any e=true→S e.on=true):S i=true:=by
 obtain⟨o,ho,e,he,hb,h⟩:=XV h
 have Dx:=hr o ho e he hb
 rcases h with h|⟨h,hi⟩
 ·rw[←h];exact Dx
 ·exact XW hS _ _ rfl hi Dx
structure It where
 i:Nat
 o:Oper
 v:zD
 u:zZ
 r:Option (List Nat)
 wt:Bool
def It.dn (pre:Nat)(it:It):sb:=⟨it.i,og pre it.o.dst,jA it.u,it.r⟩
def vL (st:St)(it:It):St:={t:=gM st.t it.o.dst it.v,h:=qJ st.h it.u}
section
variable (E:qE) (A:qB) (k pre na nt:Nat) (ops:Array Oper)
structure Hi (st:St) (it:It):Prop where
 w:yf ops it.o st=some it.wt
 y:it.wt=true→(∀d,it.o.dst=some d→na≤d∧d<nt)∧yI (iX E A k pre it.o st.ev st.h) it.v it.u∧it.r=oh st.ev it.o
 n:it.wt=false→it.v=.skp∧it.u=[]∧∀d,it.o.dst=some d→na≤d∧d<nt
def NY (b:Array Nat)(x y:It):Prop:=lx b x.i y.i=true∨(pD ops x.i y.i=true∧(x.wt=true→y.wt=true→pC (x.dn pre) (y.dn pre)=false))
end
section
variable {E:qE} {A:qB} {k pre na nt:Nat} {R:Type} {ops:Array Oper} {b:Array Nat}
theorem NZ (hE:jZ E):∀(rest:List (Nat×Oper)) (done:List sb) (st:St) (K:St→Option R) (out:R),xI E A k pre na nt ops b rest done st K=some out→
  ∃dF:List It,dF.map (fun it=>(it.i,it.o))=rest∧K (dF.foldl vL st)=some out∧(∀bO it post,dF=bO++it::post→Hi E A k pre na nt ops (bO.foldl vL st) it)∧
   (∀d∈done,∀it∈dF,lx b d.i it.i=true∨(pD ops d.i it.i=true∧(it.wt=true→pC d (it.dn pre)=false)))∧dF.Pairwise (NY pre ops b)
 |[],done,st,K,out,h=>⟨[],rfl,h,fun bO it post e=>by simp at e,fun _ _ _ h=>by simp at h,.nil⟩
 |(i,o)::rest,done,st,K,out,h=>by
  unfold xI at h
  generalize hc:(done.all fun d=>lx b d.i i||pD ops d.i i)=c at h
  cases c with
  |false=>cases h
  |true=>
   have mV:∀d∈done,lx b d.i i=true∨pD ops d.i i=true:=fun d hd=>by
    have:=List.all_eq_true.1 hc d hd
    simpa[Bool.or_eq_true] using this
   rw[cond_true] at h
   obtain⟨bw,hb,h⟩:=XQ h
   cases bw with
   |true=>
    rw[if_pos rfl] at h
    obtain⟨hd,v,u,hy,h⟩:=XS hE h
    dsimp only at h
    generalize bW:(done.all fun d=>lx b d.i i|| !pC d ⟨i,og pre o.dst,jA u,oh st.ev o⟩)=c2 at h
    cases c2 with
    |false=>exact absurd h (by simp)
    |true=>
     rw[cond_true] at h
     have ux:∀d∈done,lx b d.i i=true∨pC d ⟨i,og pre o.dst,jA u,oh st.ev o⟩=false:=fun d hd=>by
      have:=List.all_eq_true.1 bW d hd
      simpa[Bool.or_eq_true] using this
     obtain⟨dF,h1,h2,h3,h4,h5⟩:=NZ hE rest _ _ K out h
     let it:It:=⟨i,o,v,u,oh st.ev o,true⟩
     refine⟨it::dF,by rw[List.map_cons,h1],h2,fun bO uJ post e=>?_,fun d gj uJ iy=>?_,?_⟩
     ·cases bO with
      |nil=>
       simp only[List.nil_append,List.cons.injEq] at e
       obtain⟨rfl,rfl⟩:=e
       exact⟨hb,fun _=>⟨hd,hy,rfl⟩,fun h=>(by cases h)⟩
      |cons p bO=>
       simp only[List.cons_append,List.cons.injEq] at e
       obtain⟨rfl,e⟩:=e
       exact h3 bO uJ post e
     ·rcases List.mem_cons.1 iy with rfl|iy
      ·rcases mV d gj with h|h
       ·exact .inl h
       ·rcases ux d gj with h'|h'
        ·exact .inl h'
        ·exact .inr ⟨h,fun _=>h'⟩
      ·exact h4 d (List.mem_cons_of_mem _ gj) uJ iy
     ·refine List.pairwise_cons.2 ⟨fun y uK=>?_,h5⟩
      rcases h4 (it.dn pre) (List.mem_cons_self ..) y uK with h|⟨h,h'⟩
      ·exact .inl h
      ·exact .inr ⟨h,fun _ hw=>h' hw⟩
   |false=>
    rw[if_neg (by simp)] at h
    have pX:pE na nt o.dst=true:=by
     cases hc:pE na nt o.dst with
     |true=>rfl
     |false=>rw[hc] at h;cases h
    rw[pX] at h
    rw[cond_true] at h
    obtain⟨dF,h1,h2,h3,h4,h5⟩:=NZ hE rest _ _ K out h
    let it:It:=⟨i,o,.skp,[],some [],false⟩
    refine⟨it::dF,by rw[List.map_cons,h1],h2,fun bO uJ post e=>?_,fun d gj uJ iy=>?_,?_⟩
    ·cases bO with
     |nil=>
      simp only[List.nil_append,List.cons.injEq] at e
      obtain⟨rfl,rfl⟩:=e
      exact⟨hb,fun h=>(by cases h),fun _=>⟨rfl,rfl,NX hE pX⟩⟩
     |cons p bO=>
      simp only[List.cons_append,List.cons.injEq] at e
      obtain⟨rfl,e⟩:=e
      exact h3 bO uJ post e
    ·rcases List.mem_cons.1 iy with rfl|iy
     ·rcases mV d gj with h|h
      ·exact .inl h
      ·exact .inr ⟨h,fun h=>(by cases h)⟩
     ·exact h4 d (List.mem_cons_of_mem _ gj) uJ iy
    ·refine List.pairwise_cons.2 ⟨fun y uK=>?_,h5⟩
     rcases h4 (it.dn pre) (List.mem_cons_self ..) y uK with h|⟨h,h'⟩
     ·exact .inl h
     ·exact .inr ⟨h,fun hw=>(by cases hw)⟩
end
end Go.Ab
