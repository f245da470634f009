/- part 1 -/
import Derived.Test.YtdhajnjinkknkaaGreatGiAbA
set_option linter.unusedVariables false
set_option linter.unusedSimpArgs false
namespace Go.Ab
theorem uc {P:Program}{w:World}{k:IntKind}{i:Int}{y:Nat}{c:BoundsCode}(h0:0≤i)(h1:i≤y):(Instr.sliceBound (.int k i) y c).run P w=.ok i.toNat w:=by
 simp[Instr.sliceBound,asIntOf,h0,h1]
def xX (M:zC):Option zI→Option Value→Prop
 |none,none=>True
 |some a,some v=>qA M a v
 |_,_=>False
theorem DC {P:Program}{M:zC}{w:World}{b:Bool}{len cap l u:Nat}{lo hi:Option zI}{iC hZ:Option Value}(jw:xX M lo iC)(iZ:xX M hi hZ)(hc:len≤cap)
  (h:rz len lo hi=some (true,l,u)):(Instr.sliceBounds b len cap iC hZ none).run P w=.ok (l,u,cap) w∧l≤u∧u≤len∧(lo=none→l=0)∧(hi=none→u=len):=by
 unfold rz at h
 split at h
 ·cases h
  cases iC with
  |some _=>exact jw.elim
  |none=>cases hZ with
   |some _=>exact iZ.elim
   |none=>exact⟨by simp[Instr.sliceBounds],Nat.zero_le _,Nat.le_refl _,fun _=>rfl,fun _=>rfl⟩
 ·rename_i k i
  simp only[Option.some.injEq,Prod.mk.injEq,Bool.and_eq_true,decide_eq_true_eq] at h
  obtain⟨⟨h0,h1⟩,rfl,rfl⟩:=h
  cases hZ with
  |some _=>exact iZ.elim
  |none=>cases iC with
   |none=>exact jw.elim
   |some v=>
    have e:v=.int k i:=jw
    subst e
    refine⟨?_,by omega,Nat.le_refl _,fun h=>(by cases h),fun _=>rfl⟩
    simp only[Instr.sliceBounds,Sem.run_bind,Sem.run_pure,Result.andThen_ok]
    rw[uc h0 h1]
    rfl
 ·rename_i k i
  simp only[Option.some.injEq,Prod.mk.injEq,Bool.and_eq_true,decide_eq_true_eq] at h
  obtain⟨⟨h0,h1⟩,rfl,rfl⟩:=h
  cases iC with
  |some _=>exact jw.elim
  |none=>cases hZ with
   |none=>exact iZ.elim
   |some v=>
    have e:v=.int k i:=iZ
    subst e
    refine⟨?_,Nat.zero_le _,by omega,fun _=>rfl,fun h=>(by cases h)⟩
    simp only[Instr.sliceBounds,Sem.run_bind,Sem.run_pure,Result.andThen_ok]
    rw[uc h0 (by omega)]
    rfl
 ·rename_i k i k' i'
  simp only[Option.some.injEq,Prod.mk.injEq,Bool.and_eq_true,decide_eq_true_eq] at h
  obtain⟨⟨⟨h0,h1⟩,h2⟩,rfl,rfl⟩:=h
  cases iC with
  |none=>exact jw.elim
  |some v=>cases hZ with
   |none=>exact iZ.elim
   |some v'=>
    have e:v=.int k i:=jw
    have e':v'=.int k' i':=iZ
    subst e;subst e'
    refine⟨?_,by omega,by omega,fun h=>(by cases h),fun h=>(by cases h)⟩
    simp only[Instr.sliceBounds,Sem.run_bind,Sem.run_pure,Result.andThen_ok]
    rw[uc (by omega) (by omega)]
    simp only[Result.andThen_ok]
    rw[uc h0 (by omega)]
    rfl
 ·cases h
def mc (A:Option Addr)(l c size:Nat):Option Addr:=if c=l then A else A.map (·.add (l*size))
theorem wK.cut {H:Array Go.Obj}{C:zT}{lo n l u:Nat}{A:Option Addr}{c:Nat}(h:wK H C lo n (.slice A n c))(h1:l≤u)(h2:u≤n):
  wK H C (lo+l) (u-l) (.slice (mc A l c C.sz) (u-l) (c-l)):=by
 obtain⟨A',c',e,h⟩:=h
 simp only[Value.slice.injEq] at e
 obtain⟨rfl,_,rfl⟩:=e
 refine⟨_,_,rfl,?_⟩
 cases hB:C.blk with
 |none=>
  rw[hB] at h
  obtain⟨rfl,rfl,rfl⟩:=h
  refine⟨?_,by omega,by omega⟩
  unfold mc;split<;>rfl
 |some B=>
  rw[hB] at h
  obtain⟨hc,a,rfl,ha,hs⟩:=h
  refine⟨by omega,?_⟩
  unfold mc
  by_cases e:c=l
  ·rw[if_pos e]
   exact⟨a,rfl,.inl (by omega),by rw[show lo+l+(c-l)=lo+c by omega];exact hs⟩
  ·rw[if_neg e]
   refine⟨a+l*C.sz,by simp[Addr.add_lit],.inr ?_,by rw[show lo+l+(c-l)=lo+c by omega];exact hs⟩
   have:a=lo*C.sz:=by rcases ha with ha|ha<;>omega
   rw[this,Nat.add_mul]
theorem wK.cut' {H:Array Go.Obj}{C:zT}{lo n l u:Nat}{A:Option Addr}{c:Nat}(h:wK H C lo n (.slice A n c))(h1:l≤u)(h2:u≤c):
  wK H C (lo+l) (u-l) (.slice (mc A l c C.sz) (u-l) (c-l)):=by
 obtain⟨A',c',e,h⟩:=h
 simp only[Value.slice.injEq] at e
 obtain⟨rfl,_,rfl⟩:=e
 refine⟨_,_,rfl,?_⟩
 cases hB:C.blk with
 |none=>
  rw[hB] at h
  obtain⟨rfl,rfl,rfl⟩:=h
  refine⟨?_,by omega,by omega⟩
  unfold mc;split<;>rfl
 |some B=>
  rw[hB] at h
  obtain⟨hc,a,rfl,ha,hs⟩:=h
  refine⟨by omega,?_⟩
  unfold mc
  by_cases e:c=l
  ·rw[if_pos e]
   exact⟨a,rfl,.inl (by omega),by rw[show lo+l+(c-l)=lo+c by omega];exact hs⟩
  ·rw[if_neg e]
   refine⟨a+l*C.sz,by simp[Addr.add_lit],.inr ?_,by rw[show lo+l+(c-l)=lo+c by omega];exact hs⟩
   have:a=lo*C.sz:=by rcases ha with ha|ha<;>omega
   rw[this,Nat.add_mul]
theorem vOs {H:Array Go.Obj}{F:Nat→Prop}{t:Ty}{xs:List t.den}{A:Option Addr}{n c l u:Nat}(h:qF H F (.sl t) xs (fun _=>some (.slice A n c)))(h1:l≤u)(h2:u≤n):
  qF H F (.sl t) (yB xs l (u-l)) (fun _=>some (.slice (mc A l c t.size) (u-l) (c-l))):=by
 simp only[qF,Option.some.injEq,Value.slice.injEq] at h⊢
 obtain⟨A',n',c',⟨rfl,rfl,rfl⟩,hn,hc,h⟩:=h
 have hl:=xT (xs:=xs) (lo:=l) (n:=u-l) (by omega)
 refine⟨_,_,_,⟨rfl,rfl,rfl⟩,hl.symm,by omega,?_⟩
 by_cases e0:u-l=0
 ·refine .inl ⟨List.eq_nil_of_length_eq_zero (by omega),fun hA=>?_⟩
  rcases h with⟨rfl,h0⟩|⟨B,o,rfl,_⟩
  ·cases A with
   |none=>rw[h0 rfl];omega
   |some a=>
    unfold mc at hA
    split at hA<;>cases hA
  ·unfold mc at hA
   split at hA<;>cases hA
 ·rcases h with⟨rfl,_⟩|⟨B,o,rfl,hB,hE⟩
  ·simp at hn;omega
  ·refine .inr ⟨B,o+l*t.size,?_,hB,fun i hi=>?_⟩
   ·unfold mc
    rw[if_neg (by omega)]
    simp[Addr.add_lit]
   ·obtain⟨bM,e1⟩:=HG hi
    rw[e1]
    have:=hE (l+i) bM
    rw[Nat.add_mul,←Nat.add_assoc] at this
    exact this
theorem YL {P:Program}{w:World}{t e:TypeId}{A:Option Addr}{n c l u:Nat}{iC hZ:Option Value}(hu:P.underlying t=some (.slice e))(he:0<P.cellsOf e)
  (hb:(Instr.sliceBounds true n c iC hZ none).run P w=.ok (l,u,c) w):
  (Instr.sliceAt t (.slice A n c) iC hZ none).run P w=.ok (.slice (mc A l c (P.cellsOf e)) (u-l) (c-l)) w:=by
 obtain⟨y,hy⟩:=lZ he
 simp only[Instr.sliceAt,Sem.run_bind,run_underlying hu,Result.andThen_ok,Instr.slice,hb,gw w hy,Sem.run_pure,mc]
theorem YM {M:zC}:∀{vs:List zL} {us:List Value} {ns:List Int},tO vs=some ns→zQ (zZ M) vs us→us=ns.map (.int .i64 ·)∧vs=ns.map (.int .i64 ·)
 |[],[],ns,h,_=>by cases h;exact⟨rfl,rfl⟩
 |v::vs,u::us,ns,h,hh=>by
  unfold tO at h
  split at h
  ·rename_i heq;cases heq
  ·rename_i n l heq
   cases heq
   split at h
   ·rename_i r hr
    cases h
    obtain⟨e1,e2⟩:=YM hr hh.2
    have:u=.int .i64 n:=hh.1
    rw[this,e1,e2]
    exact⟨rfl,rfl⟩
   ·cases h
  ·cases h
 |[],_::_,_,_,hh=>hh.elim
 |_::_,[],_,_,hh=>hh.elim
theorem vF1 {M:zC}(ok:Ok M){id:Nat}{own:Bool}{cells:List zL}(ah:M.h id=some (.box own cells)):
  ∃M',M'.H=M.H∧M'.h=yM M.h id (.box false cells)∧Ok M'∧yY M M'∧M'.h id=some (.box false cells):=by
 cases own with
 |false=>exact⟨M,rfl,(Dn ah).symm,ok,yY.refl M,ah⟩
 |true=>
  obtain⟨C,hC,hO⟩:=ok.obj id _ ah
  have o9:yU (M.freeze id (.box false cells) C) (.box false cells) C:=by
   have x:yW M (M.freeze id (.box false cells) C):=⟨fun _ C h=>⟨C,h,C.le_refl⟩,fun _ h=>.inl h,fun _ h=>.inl h,fun _ _=>rfl,fun _ _=>rfl,fun _ _=>rfl⟩
   obtain⟨B,vals,e,h1,h2,h3,h4,h5⟩:=hO.ext x fun _ _ _=>rfl
   exact⟨B,vals,e,h1,h2,h3,h4,fun _=>.inr (jV h1)⟩
  have:=zC.freeze_ok ok ah rfl hC rfl o9
  exact⟨M.freeze id _ C,rfl,rfl,this.1,this.2,yQ _ _ _⟩
theorem vAl {P:Program}{M:zC}{w:World}(ok:Ok M)(hM:M.H=w.heap){t:TypeId}{x v:zI}{lo hi mx:Option zI}{u:qH}{rx:Value}{iC hZ xY:Option Value}
  (hx:qA M x rx) (jw:xX M lo iC) (iZ:xX M hi hZ) (DD:xX M mx xY) (h:yN (xG P M.h t x lo hi mx) v u):qQ P (Instr.sliceAt t rx iC hZ xY) M w v u:=by
 unfold xG at h
 split at h
 ·rename_i e sh ty xs hu
  cases xY with
  |some _=>exact DD.elim
  |none=>
  obtain⟨hz,h⟩:=fm h
  have hz:=Nat.eq_of_beq_eq_true hz
  split at h
  ·rename_i iB l u' hc
   obtain⟨rfl,rfl,rfl⟩:=lj h
   have mL:qF M.H (bif sh then M.G else M.F) (.sl ty) xs (fun _=>some rx):=hx
   have xZ:=mL
   simp only[qF,Option.some.injEq] at xZ
   obtain⟨A,m,c,rfl,rfl,ju,_⟩:=xZ
   obtain⟨b1,b2,b3,b4,b5⟩:=DC (P:=P) (w:=w) (b:=true) jw iZ ju hc
   refine qQ.pure ok hM (YL hu (by rw[hz];exact ty.size_pos) b1) ?_
   have key:=vOs mL b2 b3
   rw[←hz] at key
   show qF _ _ _ _ _
   split
   ·rw[b4 rfl,b5 rfl] at key⊢
    simpa[yB] using key
   ·rw[b5 rfl] at key⊢
    have:yB xs l (xs.length-l)=xs.drop l:=by simp only[yB];rw[List.take_of_length_le (by simp)]
    rw[this] at key
    exact key
   ·rw[b4 rfl] at key⊢
    simpa[yB] using key
   ·exact key
  ·exact h.elim
 ·rename_i e id r hu
  cases xY with
  |some _=>exact DD.elim
  |none=>
  split at h
  ·rename_i own ty xs ah
   obtain⟨hz,h⟩:=fm h
   have hz:=Nat.eq_of_beq_eq_true hz
   split at h
   ·rename_i iB l u' hc
    obtain⟨rfl,rfl,rfl⟩:=lj h
    obtain⟨C,hC,hS⟩:=hx
    obtain⟨C',aC,hO⟩:=ok.obj _ _ ah
    rw[hC] at aC;cases aC
    have hlen:=hO.1
    have dV:=hO.2.1
    have key:∀pf m,pf+m≤C.len→wK M.H C pf m rx→NL C pf rx→rz (match hi with|none=>m|some _=>C.len-pf) lo hi=some (true,l,u')→
      qQ P (Instr.sliceAt t rx iC hZ none) M w (.c (.osl id (some (pf+l,u'-l)))) []:=by
     intro pf m hm lv gz ju
     have hS0:=lv
     clear hS
     obtain⟨A,c,rfl,_⟩:=hS0
     obtain⟨_,_,_,gz,DE⟩:=gz
     cases gz
     have Og:m≤c:=by
      obtain⟨A',c',e,Oh⟩:=lv
      simp only[Value.slice.injEq] at e
      obtain⟨rfl,_,rfl⟩:=e
      cases hB:C.blk with
      |none=>rw[hB] at Oh;omega
      |some B=>rw[hB] at Oh;exact Oh.1
     have hb:∃k,(Instr.sliceBounds true m c iC hZ none).run P w=.ok (l,u',c) w∧l≤u'∧u'≤k∧k≤c∧pf+k≤C.len:=by
      cases hi with
      |none=>
       obtain⟨b1,b2,b3,b4,b5⟩:=DC (P:=P) (w:=w) (b:=true) jw iZ Og ju
       exact⟨m,b1,b2,b3,Og,hm⟩
      |some y=>
       have hk:C.len-pf≤c:=by omega
       obtain⟨b1,b2,b3,b4,b5⟩:=DC (P:=P) (w:=w) (b:=true) jw iZ hk ju
       refine⟨C.len-pf,?_,b2,b3,hk,by omega⟩
       cases hZ with
       |none=>exact iZ.elim
       |some ry=>exact b1
     obtain⟨k,b1,b2,b3,b6,b7⟩:=hb
     refine qQ.pure ok hM (YL hu (by rw[hz];exact ty.size_pos) b1) ⟨C,hC,by omega,?_,_,_,_,rfl,by omega⟩
     have:=wK.cut' lv b2 (show u'≤c by omega)
     rw[hz,←dV]
     exact this
    cases r with
    | none => exact key 0 C.len (by omega) hS (by
      obtain⟨A,c,rfl,h⟩:=hS
      refine⟨A,_,c,rfl,?_⟩
      cases hB:C.blk with
      |none=>rw[hB] at h;omega
      | some B => rw [hB] at h; have := h.1; omega) (by
      unfold NA at hc
      rw[←hlen] at hc
      cases hi<;>exact hc)
    | some p => exact key p.1 p.2 hS.1 hS.2.1 hS.2.2 (by
      unfold NA at hc
      rw[←hlen] at hc
      cases hi<;>exact hc)
   ·exact h.elim
  ·exact h.elim
 ·rename_i e km m id hu
  split at h
  ·rename_i own ty xs ah
   obtain⟨hz,h⟩:=fm h
   have hz:=Nat.eq_of_beq_eq_true hz
   split at h
   ·skip
    rename_i a b iB l u' _ hc
    obtain⟨eS,rfl,rfl⟩:=lj h
    simp only[Bool.and_eq_true,decide_eq_true_eq] at eS
    obtain⟨⟨eS,h1⟩,h2⟩:=eS
    subst eS
    obtain⟨C,hC,hS⟩:=hx
    obtain⟨C',aC,hO⟩:=ok.obj _ _ ah
    rw[hC] at aC;cases aC
    have hlen:=hO.1
    obtain⟨A,c,rfl,hS⟩:=hS
    have Og:C.len≤c:=by
     cases hB:C.blk with
     |none=>rw[hB] at hS;omega
     |some B=>rw[hB] at hS;exact hS.1
    cases xY with
    |none=>exact DD.elim
    |some rm=>
     have hrm:rm=.int km m:=DD
     subst hrm
     obtain⟨b1,b2,b3,b4,b5⟩:=DC (P:=P) (w:=w) (b:=true) jw iZ (Nat.le_refl xs.length) hc
     obtain⟨i,hi⟩:=lZ (P:=P) (t:=e) (by rw[hz];exact ty.size_pos)
     cases iC with
     |none=>exact jw.elim
     |some rl=>cases hZ with
      |none=>exact iZ.elim
      |some rh=>
       have hbb:∃k1 i1 k2 i2,rl=.int k1 i1∧rh=.int k2 i2∧0≤i1∧i1≤i2∧i2≤(xs.length:Int)∧l=i1.toNat∧u'=i2.toNat:=by
        unfold rz at hc
        split at hc
        ·rename_i e1 _;cases e1
        ·rename_i e1;cases e1
        ·rename_i e1 _;cases e1
        ·rename_i k i k' i' e1 e2
         cases e1;cases e2
         simp only[Option.some.injEq,Prod.mk.injEq,Bool.and_eq_true,decide_eq_true_eq] at hc
         obtain⟨⟨⟨q0,q1⟩,q2⟩,rfl,rfl⟩:=hc
         exact⟨k,i,k',i',jw,iZ,q0,q1,q2,rfl,rfl⟩
        ·cases hc
       obtain⟨k1,i1,k2,i2,rfl,rfl,q0,q1,q2,rfl,rfl⟩:=hbb
       have hr:∃v,(Instr.sliceAt t (.slice A C.len c) (some (.int k1 i1)) (some (.int k2 i2)) (some (.int km m))).run P w=.ok v w∧v.one1=true:=by
        refine⟨.slice (if m.toNat=i1.toNat then A else A.map (·.add (i1.toNat*P.cellsOf e))) (i2.toNat-i1.toNat) (m.toNat-i1.toNat),?_,rfl⟩
        have e1:=uc (P:=P) (w:=w) (k:=km) (i:=m) (y:=c) (c:=.slice3Acap) (by omega) (by omega)
        have e2:=uc (P:=P) (w:=w) (k:=k2) (i:=i2) (y:=m.toNat) (c:=.slice3B) (by omega) (by omega)
        have e3:=uc (P:=P) (w:=w) (k:=k1) (i:=i1) (y:=i2.toNat) (c:=.slice3C) (by omega) (by omega)
        simp[Instr.sliceAt,run_underlying hu,Instr.slice,Instr.sliceBounds,e1,e2,e3,gw w hi]
       obtain⟨v,hr,hv⟩:=hr
       exact qQ.pure ok hM hr hv
   ·exact h.elim
  ·exact h.elim
 ·rename_i n e id off hu
  cases xY with
  |some _=>exact DD.elim
  |none=>
  obtain⟨hz,h⟩:=fm h
  have hz:=Nat.eq_of_beq_eq_true hz
  obtain⟨y,hy⟩:=lZ (P:=P) (t:=e) (by omega)
  split at h
  ·rename_i own cells ah
   obtain⟨C,B,hC,hB,rfl⟩:=hx
   split at h
   ·obtain⟨_,h⟩:=fm h
    obtain⟨rfl,rfl⟩:=wF h
    have Oi:iC=none:=by cases iC with
     |none=>rfl
     |some _=>exact jw.elim
    have Oj:hZ=none:=by cases hZ with
     |none=>rfl
     |some _=>exact iZ.elim
    subst Oi;subst Oj
    refine qQ.pure ok hM (rv:=.slice (some ⟨B,off,none⟩) n n) ?_ ⟨C,B,hC,hB,rfl⟩
    simp[Instr.sliceAt,run_underlying hu,iz,Instr.sliceBounds,gw w hy,Addr.add_lit]
   ·split at h
    ·rename_i vs eG
     split at h
     ·rename_i ns iB l u' Ol hc
      obtain⟨rfl,rfl,rfl⟩:=fE h
      obtain⟨b1,b2,b3,b4,b5⟩:=DC (P:=P) (w:=w) (b:=false) jw iZ (Nat.le_refl n) hc
      obtain⟨M',a1,a2,a3,a4,a5⟩:=vF1 ok ah
      obtain⟨C1,gA,le⟩:=a4.ext.κ id C hC
      obtain⟨C2,YN,hO⟩:=a3.obj id _ a5
      rw[gA] at YN;cases YN
      obtain⟨B',vals,ev,k1,k2,k3,k4,k5⟩:=hO
      rw[le.blk,hB] at k1;cases k1
      obtain⟨q1,q2,q3⟩:=Dm eG
      have bh:=YE k4 eG
      obtain⟨e1,e2⟩:=YM Ol bh
      have hlen:ns.length=n:=by rw[e2] at q3;simpa[hz] using q3
      refine⟨.slice (some (if n=l then⟨B,off,none⟩ else⟨B,off+l*P.cellsOf e,none⟩)) (u'-l) (n-l),w,M',?_,rfl,rfl,rfl,a1.trans hM,a2,a3,a4,?_⟩
      ·simp[Instr.sliceAt,run_underlying hu,iz,b1,gw w hy,Addr.add_lit]
      ·show qF M'.H (bif true then M'.G else M'.F) (.sl (.int .i64)) (yB ns l (u'-l)) (fun _=>some _)
       simp only[qF,Option.some.injEq,Value.slice.injEq]
       have hl:=xT (xs:=ns) (lo:=l) (n:=u'-l) (by omega)
       refine⟨_,_,_,⟨rfl,rfl,rfl⟩,hl.symm,by omega,?_⟩
       by_cases e0:u'-l=0
       ·exact .inl ⟨List.eq_nil_of_length_eq_zero (by omega),fun h=>by cases h⟩
       ·refine .inr ⟨B,off+l*P.cellsOf e,by rw[if_neg (by omega)],k5 rfl,fun i hi=>?_⟩
        obtain⟨bM,e3⟩:=HG hi
        rw[e3,hz]
        simp only[qF,Ty.size,Nat.mul_one,Nat.add_zero,yF,k3]
        have e4:(vals.extract off (off+n)).toList[l+i]? =(ns.map (Value.int .i64 ·))[l+i]? :=by rw[e1]
        simp only[Array.getElem?_toList,List.getElem?_map,List.getElem?_eq_getElem bM,Option.map_some] at e4
        rw[Array.getElem?_extract] at e4
        split at e4
        ·rw[Nat.add_assoc];exact e4
        ·cases e4
     ·exact h.elim
    ·exact h.elim
  ·exact h.elim
 ·exact h.elim
def zC.move (M:zC)(nm:Nat)(C:zT)(h:Hp)(H:Array Go.Obj):zC:={M with κ:=κset M.κ nm C,h:=h,H:=H}
theorem zC.move_ok {M:zC}(ok:Ok M){nm:Nat}{o':Obj}{C':zT}{h':Hp}{H':Array Go.Obj}(J:Nat→Prop)(aT:M.h nm=none)
    (hJ:∀j,J j→∃o,M.h j=some o∧o.owned=true∧h' j=some .gone) (DF:h' nm=some o') (bp:∀n,¬J n→n≠nm→h' n=M.h n) (dV:M.H.size≤H'.size)
    (hH:∀b,b<M.H.size→(∀j C,J j→M.κ j=some C→b∉C.fp)→H'[b]? =M.H[b]?) (cH:∀b,b<M.H.size→qZ H' b=qZ M.H b)
    (kB:∀b∈C'.fp,(M.H.size≤b∧b<H'.size)∨∃j C,J j∧M.κ j=some C∧b∈C.fp)
    (hO:yW M (M.move nm C' h' H')→yU (M.move nm C' h' H') o' C'):Ok (M.move nm C' h' H')∧yY M (M.move nm C' h' H'):=by
  have HQ:∀j C b,J j→M.κ j=some C→b∈C.fp→qU M b:=fun j C b hj hC hb=>by
    obtain⟨o,h1,h2,_⟩:=hJ j hj
    exact⟨j,o,C,h1,h2,hC,hb⟩
  have rK:∀b,M.F b→∀j C,J j→M.κ j=some C→b∉C.fp:=fun b hF j C hj hC hb=>(ok.own b (HQ j C b hj hC hb)).1 hF
  have x:yW M (M.move nm C' h' H'):=
    { κ:=fun n D h=>by
        have:n≠nm:=fun e=>by rw[e,ok.non nm aT] at h;cases h
        exact⟨D,by simp only[zC.move];rw[κset_ne _ _ this];exact h,D.le_refl⟩
      F:=fun _ h=>h
      G:=fun _ h=>h
      same:=fun b h=>hH b (ok.Flt b h) (rK b h)
      sameG:=fun b h=>hH b (ok.Flt b (ok.GF b h)) (rK b (ok.GF b h))
      bsz:=cH}
  have Om:∀j,J j→j≠nm:=fun j hj e=>by
    obtain⟨o,h1,_⟩:=hJ j hj
    rw[e,aT] at h1;cases h1
  have dE:∀n q,n≠nm→h' n=some q→q.owned=true→¬J n∧M.h n=some q:=by
    intro n q e h1 h2
    by_cases hj:J n
    · obtain⟨o,_,_,k⟩:=hJ n hj
      rw[k] at h1
      cases h1
      cases h2
    · exact⟨hj,by rw[←bp n hj e];exact h1⟩
  have gv:∀b,qU (M.move nm C' h' H') b→(M.H.size≤b∧b<H'.size)∨qU M b:=by
    rintro b ⟨n,q,D,h1,h2,h3,h4⟩
    by_cases e:n=nm
    · subst e
      simp only[zC.move,κset_same,Option.some.injEq] at h3
      subst h3
      rcases kB b h4 with h|⟨j,C,hj,hC,hb⟩
      · exact .inl h
      · exact .inr (HQ j C b hj hC hb)
    · obtain⟨_,cP⟩:=dE n q e h1 h2
      simp only[zC.move] at h3
      rw[κset_ne _ _ e] at h3
      exact .inr ⟨n,q,D,cP,h2,h3,h4⟩
  refine⟨ok.build x (fun n=>n=nm∨J n) (fun n hn=>bp n (fun hj=>hn (.inr hj)) (fun e=>hn (.inl e))) (fun n hn=>κset_ne _ _ fun e=>hn (.inl e)) ?_ ?_ dV ?_ ?_ ?_ ok.GF ?_,x,dV,?_,?_,fun b h _=>.inl h,fun b h _=>.inl h⟩
  · intro n q D hn h1 h2 h3 b hb
    refine hH b (ok.own b ⟨n,q,D,h1,h2,h3,hb⟩).2 fun j C hj hC hc=>?_
    obtain⟨o,k1,k2,_⟩:=hJ j hj
    exact ok.disj n j q o D C b (fun e=>hn (.inr (e▸hj))) h1 k1 h2 k2 h3 hC hb hc
  · intro n q D hn h1 h2 h3 b hb
    exact(ok.own b ⟨n,q,D,h1,h2,h3,hb⟩).1
  · rintro n q (rfl|hj) h1
    · simp only[zC.move] at h1
      rw[DF] at h1;cases h1
      exact⟨C',κset_same _ _ _,hO x⟩
    · obtain⟨o,k1,_,k⟩:=hJ n hj
      simp only[zC.move] at h1
      rw[k] at h1;cases h1
      obtain⟨C,hC,_⟩:=ok.obj n o k1
      exact⟨C,by simp only[zC.move];rw[κset_ne _ _ (Om n hj)];exact hC,trivial⟩
  · rintro n (rfl|hj) h1
    · simp only[zC.move] at h1
      rw[DF] at h1;cases h1
    · obtain⟨o,_,_,k⟩:=hJ n hj
      simp only[zC.move] at h1
      rw[k] at h1;cases h1
  · rintro n q D b (rfl|hj) h1 h2 h3 hb
    · simp only[zC.move,κset_same,Option.some.injEq] at h3
      subst h3
      rcases kB b hb with DG|⟨j,C,hj,hC,bJ⟩
      · refine⟨fun k qk Dk hk k1 k2 k3 k4=>?_,fun hF=>?_,DG.2⟩
        · obtain⟨_,xU⟩:=dE k qk hk k1 k2
          simp only[zC.move] at k3
          rw[κset_ne _ _ hk] at k3
          have:=(ok.own b ⟨k,qk,Dk,xU,k2,k3,k4⟩).2
          omega
        · have:=ok.Flt b hF
          omega
      · have ho:=ok.own b (HQ j C b hj hC bJ)
        refine⟨fun k qk Dk hk k1 k2 k3 k4=>?_,ho.1,by simp only[zC.move];omega⟩
        obtain⟨hkJ,xU⟩:=dE k qk hk k1 k2
        simp only[zC.move] at k3
        rw[κset_ne _ _ hk] at k3
        obtain⟨o,j1,j2,_⟩:=hJ j hj
        exact ok.disj k j qk o Dk C b (fun e=>hkJ (e▸hj)) xU j1 k2 j2 k3 hC k4 bJ
    · obtain⟨o,_,_,k⟩:=hJ n hj
      simp only[zC.move] at h1
      rw[k] at h1;cases h1
      cases h2
  · intro b hb
    have:=ok.Flt b hb
    simp only[zC.move];omega
  · intro b hb hn
    exact hH b hb fun j C hj hC hc=>hn (HQ j C b hj hC hc)
  · intro b hb aU
    rcases gv b hb with h|h
    · omega
    · exact h
theorem YO {P:Program}{M:zC}{w:World}(ok:Ok M)(hM:M.H=w.heap){nm:Nat}{vs:List zL}{us:Array Value}{e:TypeId}{s:Sem Value}(aT:M.h nm=none)
  (dA:zQ (zZ M) vs us.toList) (hr:s.run P w=.ok (.pointer (some ⟨w.heap.size,0,none⟩)) (w.alloc (.cells us e))):
  qQ P s M w (.c (.ptr nm 0)) [(nm,.box true vs)]:=by
 let C:zT:=⟨some M.H.size,0,0,0,[]⟩
 have := zC.new_ok ok aT (.box true vs) C (.cells us e) (by simp [C, zT.fp]) (by
  refine⟨M.H.size,us,e,rfl,rfl,tQ,dA.mono fun _ _ h=>h.ext (zC.new_ext ok aT _ _ _),fun h=>(by cases h)⟩)
 exact⟨_,_,_,hr,rfl,rfl,rfl,by show M.H.push _=w.heap.push _;rw[hM],rfl,this.1,this.2,C,M.H.size,κset_same _ _ _,rfl,by rw[hM]⟩
theorem DH {H:Array Go.Obj}{F:Nat→Prop}:∀(t:Ty) (rd:Nat→Option Value),(∀j,j<t.size→rd j=(fB t)[j]?)→qF H F t t.dflt rd
 |.int k,rd,h=>by simp only[qF,Ty.dflt];rw[h 0 (by simp[Ty.size])];rfl
 |.bool,rd,h=>by simp only[qF,Ty.dflt];rw[h 0 (by simp[Ty.size])];rfl
 |.sl t,rd,h=>by
  simp only[qF,Ty.dflt]
  exact⟨none,0,0,by rw[h 0 (by simp[Ty.size])];rfl,rfl,Nat.le_refl _,.inl ⟨by trivial,fun _=>rfl⟩⟩
 |.pair a b,rd,h=>by
  have hl:∀t:Ty,(fB t).length=t.size:=by
   intro t
   induction t with
   |pair a b ud ue=>simp[fB,Ty.size,ud,ue]
   |_=>rfl
  simp only[qF,Ty.dflt]
  simp only[Ty.size,fB] at h
  refine⟨DH a rd fun j hj=>?_,DH b _ fun j hj=>?_⟩
  ·rw[h j (by omega),List.getElem?_append_left (by rw[hl];exact hj)]
  ·rw[h _ (by omega),List.getElem?_append_right (by rw[hl];omega),hl]
   congr 1;omega
theorem rR:∀t:Ty,(fB t).length=t.size
 |.int _|.bool|.sl _=>rfl
 |.pair a b=>by simp[fB,Ty.size,rR a,rR b]
theorem vCe {a b:Value}(h:Ns a b=true):a=b:=by
 unfold Ns at h
 split at h
 ·simp only[Bool.and_eq_true,decide_eq_true_eq] at h
  rw[oR h.1,h.2]
 ·rename_i x y
  cases x<;>cases y<;>first|rfl|cases h
 ·rfl
 ·cases h
theorem YP:∀{l m:List Value},C8 l m=true→l=m
 |[],[],_=>rfl
 |a::l,b::m,h=>by
  simp only[C8,Bool.and_eq_true] at h
  rw[vCe h.1,YP h.2]
 |[],_::_,h=>by cases h
 |_::_,[],h=>by cases h
theorem nS {P:Program}{e:TypeId}{t:Ty}(h:g9 P e=some t):∃i z,P.info? e=some i∧i.zero=some z∧i.size=t.size∧z.cells.toList=fB t∧P.cellsOf e=t.size∧P.bytesOf e=i.bytes∧z.cells.size=t.size:=by
 unfold g9 at h
 split at h
 ·rename_i t' i h1 h2
  split at h
  ·rename_i z hz
   cases hb:(Nat.beq i.size t'.size&&C8 z.cells.toList (fB t')) with
   |false=>rw[hb] at h;cases h
   |true=>
    rw[hb] at h
    cases h
    simp only[Bool.and_eq_true] at hb
    have e1:=Nat.eq_of_beq_eq_true hb.1
    have e2:=YP hb.2
    refine⟨i,z,h2,hz,e1,e2,by rw[NS h2];exact e1,vJv h2,?_⟩
    have:=congrArg List.length e2
    rw[rR] at this
    simpa using this
  ·cases h
 ·cases h
theorem YQ {z:Value}{t:Ty}(h:z.cells.toList=fB t)(hs:z.cells.size=t.size){i j:Nat}(hj:j<t.size):z.cells[(i*t.size+j)%z.cells.size]! =(fB t)[j]'(by rw[rR];exact hj):=by
 have e1:(i*t.size+j)%z.cells.size=j:=by rw[hs,Nat.mul_comm,Nat.mul_add_mod,Nat.mod_eq_of_lt hj]
 rw[e1,getElem!_pos z.cells j (by omega)]
 have:z.cells.toList[j]'(by simp;omega)=(fB t)[j]'(by rw[rR];exact hj):=by simp only[h]
 simpa using this
theorem YR {H:Array Go.Obj}{F:Nat→Prop}{z:Value}{t:Ty}(h:z.cells.toList=fB t)(hs:z.cells.size=t.size){n i:Nat}(hi:i<n):
  qF H F t t.dflt (fun j=>(madeCells z.cells (n*t.size))[i*t.size+j]?):=by
 refine DH t _ fun j hj=>?_
 have aP:=Nat.mul_le_mul_right t.size (show i+1≤n by omega)
 rw[Nat.add_mul] at aP
 rw[List.getElem?_eq_getElem (by rw[rR];exact hj),←YQ h hs (i:=i) hj]
 simp only[madeCells]
 rw[Array.getElem?_map,Array.getElem?_range]
 simp only[show i*t.size+j<n*t.size by omega,if_true,Option.map_some]
theorem YS {P:Program}{M:zC}{w:World}(ok:Ok M)(hM:M.H=w.heap){nm:Nat}{t:Ty}{xs:List t.den}{us:Array Value}{e:TypeId}{s:Sem Value}{c:Nat}(aT:M.h nm=none)
  (hc:xs.length≤c) (hs:c*t.size≤us.size) (hx:∀i (h:i<xs.length),qF M.H M.G t xs[i] (fun j=>us[i*t.size+j]?))
  (hr:s.run P w=.ok (.slice (some ⟨w.heap.size,0,none⟩) xs.length c) (w.alloc (.cells us e))):
  qQ P s M w (.c (.osl nm none)) [(nm,.arr true t xs)]:=by
 let C:zT:=⟨some M.H.size,xs.length,t.size,0,[]⟩
 have x:=zC.new_ext ok aT (.arr true t xs) C (.cells us e)
 have hle:=Nat.mul_le_mul_right t.size hc
 have := zC.new_ok ok aT (.arr true t xs) C (.cells us e) (by simp [C, zT.fp]) (by
  refine⟨rfl,rfl,fun _=>rfl,us,e,tQ,fun h=>(by cases h),by omega,fun i hi=>?_⟩
  exact yS x.G x.sameG t _ _ _ (fun _ _=>rfl) (hx i hi))
 refine⟨_,_,_,hr,rfl,rfl,rfl,by show M.H.push _=w.heap.push _;rw[hM],rfl,this.1,this.2,C,κset_same _ _ _,_,c,rfl,?_⟩
 refine⟨hc,0,by rw[hM],.inr (by simp),?_⟩
 simp only[Nat.zero_add]
 have:qZ (M.H.push (.cells us e)) M.H.size=us.size:=by simp[qZ]
 show c*t.size≤qZ (M.H.push (.cells us e)) M.H.size
 rw[this];exact hs
theorem vBm {P:Program}{M:zC}{w:World}(ok:Ok M)(hM:M.H=w.heap){nm:Nat}{t:TypeId}{zs:List zL}(aT:M.h nm=none)(hz:zeroCells P t=some zs):
  qQ P (Instr.alloc t true (.tuple #[])) M w (.c (.ptr nm 0)) [(nm,.box true zs)]:=by
 obtain⟨i,v,h1,h2,h3,h4,rfl⟩:=Yn hz
 refine YO ok hM aT (us:=v.cells) (e:=t) (HB M h4) ?_
 simp[Instr.alloc,zeroValue,typeInfo,h1,h2,newVar,newRow]
theorem vJz {P:Program}{M:zC}{w:World}(ok:Ok M)(hM:M.H=w.heap){nm:Nat}{t:TypeId}{x:zI}{rx:Value}{vs:List zL}(aT:M.h nm=none)(hx:qA M x rx)(hv:mC x=some vs):
  qQ P (Instr.box t rx) M w (.c (.ptr nm 0)) [(nm,.box true vs)]:=by
 refine YO ok hM aT (us:=rx.cells) (e:=t) (HF hv hx) ?_
 simp[Instr.box,newVar,newRow]
theorem YT {α:Type}{n i:Nat}{a:α}(h:i<(List.replicate n a).length):(List.replicate n a)[i]=a:=by simp
theorem vCk {P:Program}{M:zC}{w:World}(ok:Ok M)(hM:M.H=w.heap){nm n:Nat}{us:Array Value}{e:TypeId}{s:Sem Value}{c:Nat}(aT:M.h nm=none)
  (hc:n≤c) (hs:c≤us.size) (hx:∀i,i<n→us[i]? =some (.slice none 0 0))
  (hr:s.run P w=.ok (.slice (some ⟨w.heap.size,0,none⟩) n c) (w.alloc (.cells us e))):
  qQ P s M w (.c (.osl nm none)) [(nm,.mat 0 (List.replicate n []))]:=by
 let C:zT:=⟨some M.H.size,n,1,0,List.replicate n (none,0)⟩
 have HR:(List.replicate n ((none,0):Option Nat×Nat)).filterMap (·.1)=[]:=by
  rw[List.filterMap_eq_nil_iff]
  intro a ha
  rw[List.eq_of_mem_replicate ha]
 have kB:C.fp=[M.H.size]:=by simp[C,zT.fp,HR]
 have := zC.new_ok ok aT (.mat 0 (List.replicate n [])) C (.cells us e) (by rw [kB]; simp) (by
  refine⟨rfl,by simp[C],rfl,by simp[C],by rw[kB];simp,us,e,tQ,by simp;omega,fun i hi=>?_⟩
  have dj:i<n:=by simpa using hi
  refine⟨none,.slice none 0 0,by simp[C,dj],hx i dj,⟨rfl,by simp⟩,fun R hR=>(by cases hR)⟩)
 refine⟨_,_,_,hr,rfl,rfl,rfl,by show M.H.push _=w.heap.push _;rw[hM],rfl,this.1,this.2,C,κset_same _ _ _,_,c,rfl,?_⟩
 refine⟨hc,0,by rw[hM],.inr (by simp),?_⟩
 simp only[Nat.zero_add]
 have:qZ (M.H.push (.cells us e)) M.H.size=us.size:=by simp[qZ]
 show c*1≤qZ (M.H.push (.cells us e)) M.H.size
 rw[this];omega
theorem vGt {P:Program}{M:zC}{w:World}(ok:Ok M)(hM:M.H=w.heap){mat:Bool}{nm:Nat}{t:TypeId}{l c v:zI}{u:qH}{rl rc:Value}(hl:qA M l rl)(hc:qA M c rc)
  (h:yN (xC P mat nm M.h t l c) v u):qQ P (Instr.makeSlice t rl rc) M w v u:=by
 unfold xC at h
 split at h
 ·rename_i e l c hu aT
  have e1:rl=.int .i64 l:=hl
  have e2:rc=.int .i64 c:=hc
  subst e1;subst e2
  cases mat with
  |true=>
   simp only[cond_true] at h
   split at h
   ·rename_i dC
    obtain⟨eS,rfl,rfl⟩:=fE h
    obtain⟨i,z,h1,h2,h3,h4,h5,h6,h7⟩:=nS dC
    simp only[Bool.and_eq_true,decide_eq_true_eq] at eS
    obtain⟨⟨⟨o1,o2⟩,o3⟩,o4⟩:=eS
    have hr:=run_make (P:=P) w t e i z hu h1 h2 .i64 .i64 l c o1 o2 (by rw[h6] at o3;rw[Int.mul_comm];omega) (by omega)
    have dV:i.size=1:=h3
    rw[dV,Nat.mul_one] at hr
    refine vCk ok hM aT (n:=l.toNat) (c:=c.toNat) (by omega) (by rw[size_madeCells];exact Nat.le_refl _) (fun k hk=>?_) hr
    have ya:z.cells.toList=[.slice none 0 0]:=h4
    have DI:z.cells.size=1:=h7
    simp only[madeCells]
    rw[Array.getElem?_map,Array.getElem?_range]
    simp only[show k<c.toNat by omega,if_true,Option.map_some,DI,Nat.mod_one]
    rw[getElem!_pos z.cells 0 (by omega)]
    have:z.cells.toList[0]'(by simp;omega)=.slice none 0 0:=by simp only[ya,List.getElem_cons_zero]
    simpa using this
   ·exact h.elim
  |false=>
   simp only[cond_false] at h
   split at h
   ·rename_i ty dC
    obtain⟨eS,rfl,rfl⟩:=fE h
    obtain⟨i,z,h1,h2,h3,h4,h5,h6,h7⟩:=nS dC
    simp only[Bool.and_eq_true,decide_eq_true_eq] at eS
    obtain⟨⟨⟨o1,o2⟩,o3⟩,o4⟩:=eS
    have hr:=run_make (P:=P) w t e i z hu h1 h2 .i64 .i64 l c o1 o2 (by rw[h6] at o3;rw[Int.mul_comm];omega) (by omega)
    rw[h3] at hr
    refine YS ok hM aT (c:=c.toNat) (us:=madeCells z.cells (c.toNat*ty.size)) (e:=e) (by simp;omega) (by rw[size_madeCells];exact Nat.le_refl _) (fun k hk=>?_) (by simpa using hr)
    rw[YT hk]
    simp only[List.length_replicate] at hk
    exact YR h4 h7 (by omega)
   ·exact h.elim
 ·exact h.elim
theorem YU (off:Nat):∀(l:List Value) (k:Nat) (cells:Array Value),off+k+l.length≤cells.size→
  (l.zipIdx k).foldl (fun(cs:Array Value) (p:Value×Nat)=>cs.setIfInBounds (off+p.2) p.1) cells=yO cells (off+k) l
 |[],k,cells,h=>by
  apply Array.ext_getElem?
  intro j
  rw[jC h]
  simp only[List.zipIdx_nil,List.foldl_nil,List.length_nil]
  split
  ·rfl
  ·rw[if_neg (by omega)]
 |c::l,k,cells,h=>by
  simp only[List.length_cons] at h
  simp only[List.zipIdx_cons,List.foldl_cons]
  rw[YU off l (k+1) _ (by rw[Array.size_setIfInBounds];omega)]
  apply Array.ext_getElem?
  intro j
  rw[jC (by rw[Array.size_setIfInBounds];omega),jC (by simp only[List.length_cons];omega)]
  simp only[List.length_cons]
  by_cases e:j=off+k
  ·subst e
   rw[if_pos (by omega),if_neg (by omega),if_pos (by omega)]
   simp[show off+k<cells.size by omega]
  ·have e2:(cells.setIfInBounds (off+k) c)[j]? =cells[j]? :=by rw[Array.getElem?_setIfInBounds_ne (Ne.symm e)]
   simp only[e2]
   by_cases h1:j<off+k
   ·rw[if_pos (by omega),if_pos h1]
   ·rw[if_neg (by omega),if_neg h1]
    by_cases h2:j<off+(k+1)+l.length
    ·rw[if_pos h2,if_pos (by omega)]
     obtain⟨m,hm⟩:∃m,j-(off+k)=m+1:=⟨j-(off+k)-1,by omega⟩
     rw[hm,List.getElem?_cons_succ]
     congr 1;omega
    ·rw[if_neg h2,if_neg (by omega)]
theorem On (place:Nat→Option (Nat×Nat))(cells:Array Value)(i:Nat)(v:Value)(rest:List (Nat×Value))(off size:Nat)(h:place i=some (off,size))(h1:v.cells.size=size)(h2:off+size≤cells.size):
  Instr.fill place cells ((i,v)::rest)=Instr.fill place (yO cells off v.cells.toList) rest:=by
 have hc:¬(v.cells.size≠size||decide (off+v.cells.size>cells.size))=true:=by
  simp only[ne_eq,bne_iff_ne,Bool.or_eq_true,decide_eq_true_eq,not_or]
  exact⟨fun hn=>hn h1,by omega⟩
 simp only[Instr.fill,h]
 rw[if_neg hc]
 congr 1
 rw[←Array.foldl_toList,Array.toList_zipIdx]
 have:=YU off v.cells.toList 0 cells (by simp;omega)
 rw[Nat.add_zero] at this
 exact this
def uf (M:zC):(Nat×zI)→(Nat×Value)→Prop:=fun p q=>p.1=q.1∧qA M p.2 q.2
theorem Oo {M:zC}{place:Nat→Option (Nat×Nat)}:∀{parts:List (Nat×zI)} {aO:List (Nat×Value)} {cells out:List zL} {vals:Array Value},zQ (zZ M) cells vals.toList→
  zQ (uf M) parts aO→Db place cells parts=some out→∃res,Instr.fill place vals aO=some res∧zQ (zZ M) out res.toList
 |[],[],cells,out,vals,hc,_,h=>by cases h;exact⟨vals,rfl,hc⟩
 |(i,v)::parts,(i',rv)::aO,cells,out,vals,hc,hp,h=>by
  obtain⟨⟨hi,hv⟩,hp⟩:=hp
  dsimp only at hi hv
  subst hi
  unfold Db at h
  split at h
  ·rename_i off size vs ug dA
   cases hb:(Nat.beq vs.length size&&Nat.ble (off+size) cells.length) with
   |false=>rw[hb] at h;cases h
   |true=>
    rw[hb] at h
    simp only[cond_true] at h
    simp only[Bool.and_eq_true] at hb
    have b1:=Nat.eq_of_beq_eq_true hb.1
    have b2:=Nat.le_of_ble_eq_true hb.2
    split at h
    ·rename_i bO Oq
     obtain⟨p1,rfl⟩:=NW _ _ _ _ Oq
     have dp:=HF dA hv
     have hl:=dp.length
     have lr:=hc.length
     simp only[Array.length_toList] at hl lr
     have yF:=NZ (yW.refl M) hc dp (off:=off) (by rw[Array.length_toList];omega)
     obtain⟨res,h1,h2⟩:=Oo yF hp h
     exact⟨res,by rw[On place vals i rv aO off size ug (by omega) (by omega)];exact h1,h2⟩
    ·cases h
  ·cases h
 |[],_::_,_,_,_,_,hh,_=>hh.elim
 |_::_,[],_,_,_,_,hh,_=>hh.elim
theorem YV {P:Program}(w:World):∀(l:List Field),l.all (fun f=>(P.info? f.type).isSome)=true→
  (l.mapM fun f=>(do pure (f.offset,←sizeOf f.type):Sem (Nat×Nat))).run P w=.ok (l.map fun f=>(f.offset,P.cellsOf f.type)) w
 |[],_=>by simp
 |f::l,h=>by
  simp only[List.all_cons,Bool.and_eq_true] at h
  obtain⟨i,hi⟩:=Option.isSome_iff_exists.1 h.1
  rw[List.mapM_cons]
  simp only[Sem.run_bind,gw w hi,Result.andThen_ok,Sem.run_pure,YV w l h.2,List.map_cons]
theorem vQ1 {P:Program}{M:zC}{w:World}(ok:Ok M)(hM:M.H=w.heap){t:TypeId}{parts:List (Nat×zI)}{aO:List (Nat×Value)}{v:zI}{u:qH}(hp:zQ (uf M) parts aO)
  (h:yN (Nz P t parts) v u):qQ P (Instr.build t aO.toArray) M w v u:=by
 unfold Nz at h
 split at h
 ·exact h.elim
 ·rename_i zero hz
  obtain⟨i,z,h1,h2,h3,h4,rfl⟩:=Yn hz
  have hzero:=HB M h4
  split at h
  ·rename_i fs hs
   obtain⟨bh,h⟩:=fm h
   split at h
   ·rename_i cells hf
    obtain⟨rfl,rfl⟩:=wF h
    have ug:(fun(j:Nat)=>(fs[j]?).map fun(f:Field)=>(f.offset,P.cellsOf f.type))=(fun(j:Nat)=>(fs.toList.map fun f=>(f.offset,P.cellsOf f.type)).toArray[j]?):=by
     funext j;simp
    rw[ug] at hf
    obtain⟨res,k1,k2⟩:=Oo hzero hp hf
    refine qQ.pure ok hM (rv:=.agg res) ?_ ⟨res,rfl,k2⟩
    have hm:=YV (P:=P) w fs.toList bh
    simp only[Instr.build,zeroValue,Sem.run_bind,NT w h1,Result.andThen_ok,h2,Sem.run_pure,run_underlying hs,Array.mapM_eq_mapM_toList,Sem.run_map,hm]
    rw[k1]
    rfl
   ·exact h.elim
  ·rename_i n e hs
   obtain⟨bh,h⟩:=fm h
   obtain⟨y,hy⟩:=Option.isSome_iff_exists.1 bh
   split at h
   ·rename_i cells hf
    obtain⟨rfl,rfl⟩:=wF h
    obtain⟨res,k1,k2⟩:=Oo hzero hp hf
    refine qQ.pure ok hM (rv:=.agg res) ?_ ⟨res,rfl,k2⟩
    simp only[Instr.build,zeroValue,Sem.run_bind,NT w h1,Result.andThen_ok,h2,Sem.run_pure,run_underlying hs,gw w hy]
    rw[k1]
    rfl
   ·exact h.elim
  ·exact h.elim
theorem qQ.after {P:Program}{s:Sem Value}{M M1:zC}{w:World}{v:zI}{u1 u2:qH}(h1:M1.h=qP M.h u1)(st:yY M M1)(h:qQ P s M1 w v u2):qQ P s M w v (u1++u2):=by
 obtain⟨rv,w',M',a1,a2,a3,a4,a5,a6,a7,a8,a9⟩:=h
 exact⟨rv,w',M',a1,a2,a3,a4,a5,by rw[a6,h1,jt],a7,st.trans a8,a9⟩
theorem wN.fresh {h0 h:Hp}(hf:wN h0 h){n:Nat}(hn:h0 n=none):h n=none:=by
 rcases hf n with e|⟨o,t,xs,e1,_⟩|⟨o,xs,e1,_⟩
 ·rw[e];exact hn
 ·rw[hn] at e1;cases e1
 ·rw[hn] at e1;cases e1
theorem YW {t:Ty}{vs:List zL}{x:t.den}(h:C7 t vs=some x):vs.length=t.size∧oT t t.dflt 0 vs=some x:=by
 unfold C7 at h
 cases hb:Nat.beq vs.length t.size with
 |false=>rw[hb] at h;cases h
 |true=>rw[hb] at h;exact⟨Nat.eq_of_beq_eq_true hb,h⟩
theorem vRj {M:zC}{t:Ty}{vs:List zL}{us:List Value}{x:t.den}(h:C7 t vs=some x)(hv:zQ (zZ M) vs us){rd:Nat→Option Value}(hr:∀i,i<us.length→rd i=us[i]?):qF M.H M.G t x rd:=by
 obtain⟨h1,h2⟩:=YW h
 have hl:=hv.length
 refine N4 t vs us t.dflt x 0 (fun j=>(fB t)[j]?) rd (DH t _ fun _ _=>rfl) h2 hv (fun i hi=>by rw[Nat.zero_add];exact hr i hi) (fun j hj rM=>by omega)
theorem YX {h0:Hp}{t:Ty}{n:Nat}:∀{parts:List (Nat×zI)} {aO:List (Nat×Value)} {xs out:List t.den} {vals:Array Value} {u:qH} {M:zC},Ok M→wN h0 M.h→xs.length=n→vals.size=n*t.size→
  (∀k (h:k<xs.length),qF M.H M.G t xs[k] (fun j=>vals[k*t.size+j]?))→(∀p∈parts,p.1<n)→zQ (uf M) parts aO→lW h0 t xs parts=some (out,u)→
  ∃res M',Instr.fill (fun i=>some (i*t.size,t.size)) vals aO=some res∧M'.H=M.H∧M'.h=qP M.h u∧Ok M'∧yY M M'∧wN h0 M'.h∧out.length=n∧res.size=n*t.size∧
   (∀k (h:k<out.length),qF M'.H M'.G t out[k] (fun j=>res[k*t.size+j]?))
 |[],[],xs,out,vals,u,M,ok,hf,hx,hs,hE,_,_,h=>by
  cases h
  exact⟨vals,M,rfl,rfl,rfl,ok,yY.refl M,hf,hx,hs,hE⟩
 |(i,v)::parts,(i',rv)::aO,xs,out,vals,u,M,ok,hf,hx,hs,hE,aU,hp,h=>by
  obtain⟨⟨hi,hv⟩,hp⟩:=hp
  dsimp only at hi hv
  subst hi
  unfold lW at h
  split at h
  ·rename_i vs dA
   split at h
   ·rename_i Ob u1 tW
    split at h
    ·rename_i x rS
     split at h
     ·rename_i xs' us bp
      cases h
      have dp:=HF dA hv
      obtain⟨M1,a1,a2,a3,a4,a5,a6,a7⟩:=N2 ok hf dp tW
      have hl:=a5.length
      simp only[Array.length_toList] at hl
      have HS:=(YW rS).1
      have dj:i<n:=aU (i,v) (List.mem_cons_self ..)
      have aP:=Nat.mul_le_mul_right t.size (show i+1≤n by omega)
      rw[Nat.add_mul] at aP
      have aG:i*t.size+rv.cells.toList.length≤vals.size:=by rw[Array.length_toList];omega
      have hE1:∀k (h:k<(xs.set i x).length),qF M1.H M1.G t (xs.set i x)[k] (fun j=>(yO vals (i*t.size) rv.cells.toList)[k*t.size+j]?):=by
       intro k hk
       rw[List.length_set] at hk
       by_cases e:k=i
       ·subst e
        rw[List.getElem_set_self]
        refine vRj rS a5 fun j hj=>?_
        rw[jC aG,if_neg (by omega),if_pos (by omega)]
        congr 1;omega
       ·rw[List.getElem_set_ne (Ne.symm e)]
        refine yS a4.ext.G a4.ext.sameG t _ _ _ (fun j hj=>?_) (hE k hk)
        rw[jC aG,Array.length_toList]
        rcases YD (Ne.symm e) hj with h|h
        ·rw[if_pos (by omega)]
        ·rw[if_neg (by omega),if_neg (by omega)]
      obtain⟨res,M2,b1,b2,b3,b4,b5,b6,b7,b8,b9⟩:=YX a3 a6 (by rw[List.length_set];exact hx) (by rw[fG aG];exact hs) hE1
       (fun p hp=>aU p (List.mem_cons_of_mem _ hp)) (hp.mono fun p q YY=>⟨YY.1,by
        obtain⟨_,hq⟩:=YY
        exact qA.ext a4.ext hq⟩) bp
      exact⟨res,M2,by rw[On _ vals i rv aO (i*t.size) t.size rfl (by omega) (by omega)];exact b1,b2.trans a1,by rw[b3,a2,jt],b4,a4.trans b5,b6,b7,b8,b9⟩
     ·cases h
    ·cases h
   ·cases h
  ·cases h
 |[],_::_,_,_,_,_,_,_,_,_,_,_,_,hh,_=>hh.elim
 |_::_,[],_,_,_,_,_,_,_,_,_,_,_,hh,_=>hh.elim
theorem YZ {P:Program}{w:World}{t e:TypeId}{n:Nat}{aO:List (Nat×Value)}{ty:Ty}{i:TypeInfo}{z:Value}{res:Array Value}(hu:P.underlying t=some (.slice e))(hi:P.info? e=some i)
  (hz:i.zero=some z) (hs:i.size=ty.size) (cR:n*P.cellsOf e≤16777216) (hf:Instr.fill (fun j=>some (j*ty.size,ty.size)) (madeCells z.cells (n*ty.size)) aO=some res):
  (Instr.buildSlice t n aO.toArray).run P w=.ok (.slice (some ⟨w.heap.size,0,none⟩) n n) (w.alloc (.cells res e)):=by
 have hc:P.cellsOf e=ty.size:=by rw[NS hi];exact hs
 rw[hc] at cR
 have h1:¬2^24<n*ty.size:=by omega
 by_cases h0:n*ty.size=0
 ·have hm:madeCells z.cells (n*ty.size)=#[]:=by rw[h0];simp[madeCells,Array.range_zero']
  rw[hm] at hf
  simp only[Instr.buildSlice,Sem.run_bind,run_underlying hu,Result.andThen_ok,gw w hi,hc,gt_iff_lt,h1,if_false,h0,if_true,Sem.run_pure]
  simp[Array.range_zero',hf,newRow]
 ·simp only[Instr.buildSlice,Sem.run_bind,run_underlying hu,Result.andThen_ok,gw w hi,hc,gt_iff_lt,h1,if_false,h0,Sem.run_pure,zeroValue,NT w hi,hz]
  rw[show(Array.range (n*ty.size)).map (z.cells[· %z.cells.size]!)=madeCells z.cells (n*ty.size) from rfl,hf]
  simp[newRow]
theorem Y0 {parts:List (Nat×zI)}{n:Nat}(h:parts.all (fun p=>Nat.blt p.1 n)=true):∀p∈parts,p.1<n:=by
 simp only[List.all_eq_true] at h
 exact fun p hp=>HH (h p hp)
theorem vIu {P:Program}{M:zC}{w:World}(ok:Ok M)(hM:M.H=w.heap){nm:Nat}{t e:TypeId}{n:Nat}{parts:List (Nat×zI)}{aO:List (Nat×Value)}{ty:Ty}{xs:List ty.den}{u:qH}
  (hp:zQ (uf M) parts aO) (hu:P.underlying t=some (.slice e)) (aT:M.h nm=none) (dC:g9 P e=some ty) (cR:n*P.cellsOf e≤16777216) (aU:∀p∈parts,p.1<n)
  (hf:lW M.h ty (List.replicate n ty.dflt) parts=some (xs,u)):
  qQ P (Instr.buildSlice t n aO.toArray) M w (.c (.osl nm none)) (u++[(nm,.arr true ty xs)]):=by
 obtain⟨i,z,h1,h2,h3,h4,h5,h6,h7⟩:=nS dC
 obtain⟨res,M',b1,b2,b3,b4,b5,b6,b7,b8,b9⟩:=YX (n:=n) ok (wN.refl _) (by simp) (vals:=madeCells z.cells (n*ty.size)) (by rw[size_madeCells])
  (fun k hk=>by rw[YT hk];exact YR h4 h7 (by simpa using hk)) aU hp hf
 have hr:=YZ (P:=P) (w:=w) hu h1 h2 h3 cR b1
 refine qQ.after b3 b5 (YS b4 (b2.trans hM) (b6.fresh aT) (c:=n) (us:=res) (e:=e) (by omega) (by omega) (fun k hk=>b9 k hk) ?_)
 rw[b7];exact hr
structure rT (M:zC) (J:List Nat) (n:Nat) (rows:List (List Int)) (vals:Array Value) (rc:List (Option Nat×Nat)):Prop where
 len:rows.length=n
 size:vals.size=n
 rlen:rc.length=n
 row:∀k (h:k<rows.length),∃rb v,rc[k]? =some (rb,rows[k].length)∧vals[k]? =some v∧kA M.H rb rows[k].length v∧
  (∀R,rb=some R→∃rv er,M.H[R]? =some (.cells rv er (0,0))∧∀j (h':j<rows[k].length),rv[j]? =some (.int .i64 rows[k][j]))
 nd:(rc.filterMap (·.1)).Nodup
 of:∀R∈rc.filterMap (·.1),∃j∈J,∃C,M.κ j=some C∧R∈C.fp
 js:∀j∈J,∃ys:List Int,M.h j=some (.arr true (.int .i64) ys)
theorem rT.put {M:zC}(ok:Ok M){J:List Nat}{n:Nat}{rows:List (List Int)}{vals:Array Value}{rc:List (Option Nat×Nat)}(I:rT M J n rows vals rc){i:Nat}(hi:i<n){v:zI}{rv:Value}{r:List Int}{u:qH}
  (hv:qA M v rv) (ht:tM M.h v=some (r,u)) (hJ:∀p∈u,p.1∉J):∃HT,rT M (J++u.map (·.1)) n (rows.set i r) (yO vals i rv.cells.toList) HT∧rv.cells.size=1∧(∀p∈u,p.2=.gone):=by
 have dj:i<rows.length:=by rw[I.len];exact hi
 have put:∀(rb:Option Nat) (J':List Nat),rv.one1=true→kA M.H rb r.length rv→(∀R,rb=some R→∃rv er,M.H[R]? =some (.cells rv er (0,0))∧∀j (h':j<r.length),rv[j]? =some (.int .i64 r[j]))→
   (∀R,rb=some R→R∉rc.filterMap (·.1))→(∀R,rb=some R→∃j∈J',∃C,M.κ j=some C∧R∈C.fp)→(∀j∈J',∃ys:List Int,M.h j=some (.arr true (.int .i64) ys))→
   rT M (J++J') n (rows.set i r) (yO vals i rv.cells.toList) (rc.set i (rb,r.length))∧rv.cells.size=1:=by
  intro rb J' h1 h2 h3 h4 h5 h6
  have aF:rv.cells=#[rv]:=by cases rv<;>first|rfl|cases h1
  obtain⟨s1,s2⟩:=HJ (x:=(rb,r.length)) rc i I.nd h4
  have aG:i+rv.cells.toList.length≤vals.size:=by rw[aF,I.size];show i+1≤n;omega
  refine⟨⟨by rw[List.length_set];exact I.len,by rw[fG aG];exact I.size,by rw[List.length_set];exact I.rlen,fun k hk=>?_,s1,fun R hR=>?_,fun j hj=>?_⟩,by rw[aF];rfl⟩
  ·rw[List.length_set] at hk
   by_cases e:k=i
   ·subst e
    rw[List.getElem_set_self]
    refine⟨rb,rv,?_,?_,h2,h3⟩
    ·rw[List.getElem?_set_self (by rw[I.rlen];exact hi)]
    ·rw[jC aG,if_neg (by omega),if_pos (by rw[aF];show k<k+1;omega),aF]
     simp
   ·rw[List.getElem_set_ne (Ne.symm e)]
    obtain⟨mI,v',p1,p2,p3,p4⟩:=I.row k hk
    refine⟨mI,v',by rw[List.getElem?_set_ne (Ne.symm e)];exact p1,?_,p3,p4⟩
    rw[jC aG,aF]
    show(if k<i then vals[k]? else if k<i+1 then _ else vals[k]?)=_
    split
    ·exact p2
    ·rw[if_neg (by omega)];exact p2
  ·rcases s2 R hR with h|h
   ·obtain⟨j,hj,hC⟩:=I.of R h
    exact⟨j,List.mem_append_left _ hj,hC⟩
   ·obtain⟨j,hj,hC⟩:=h5 R h
    exact⟨j,List.mem_append_right _ hj,hC⟩
  ·rcases List.mem_append.1 hj with h|h
   ·exact I.js j h
   ·exact h6 j h
 unfold tM at ht
 split at ht
 ·rename_i jd
  split at ht
  ·rename_i ys cI
   cases ht
   obtain⟨Cj,dm,lq⟩:=ok.obj jd _ cI
   obtain⟨jr,jf⟩:=Ds lq
   obtain⟨r1,r2⟩:=N9 dm lq hv
   have rM:∀j∈[jd],∃ys:List Int,M.h j=some (.arr true (.int .i64) ys):=fun j hj=>by
    have e:j=jd:=by simpa using hj
    rw[e];exact⟨_,cI⟩
   have:=put Cj.blk [jd] (zZ.one (c:=.osl jd none) hv) r1 r2 (fun R hR hm=>?_) (fun R hR=>⟨jd,by simp,Cj,dm,jV hR⟩) (fun j hj=>rM j hj)
   ·exact⟨_,this.1,this.2,by simp⟩
   ·obtain⟨j,hj,C,hC,hRC⟩:=I.of R hm
    obtain⟨ys',hY⟩:=I.js j hj
    have bn:j≠jd:=fun e=>hJ (jd,.gone) (by simp) (e▸hj)
    exact ok.disj j jd _ _ C Cj R bn hY cI rfl rfl hC dm hRC (jV hR)
  ·cases ht
 ·cases ht
  have e:rv=.slice none 0 0:=hv
  have:=put none [] (by rw[e];rfl) ⟨e,rfl⟩ (fun R hR=>by cases hR) (fun R hR=>by cases hR) (fun R hR=>by cases hR) (fun j hj=>by cases hj)
  exact⟨_,by simpa using this.1,this.2,by simp⟩
 ·cases ht
theorem yc:∀{l:List Nat},mD l=true→l.Nodup
 |[],_=>List.nodup_nil
 |a::l,h=>by
  simp only[mD,Bool.and_eq_true,Bool.not_eq_true'] at h
  refine List.nodup_cons.2 ⟨fun hm=>?_,yc h.2⟩
  have:l.any (Nat.beq a)=true:=List.any_eq_true.2 ⟨a,hm,by simp⟩
  rw[this] at h;cases h.1
theorem Y1 {M:zC}(ok:Ok M){n:Nat}:∀{parts:List (Nat×zI)} {aO:List (Nat×Value)} {J:List Nat} {rows out:List (List Int)} {vals:Array Value} {rc:List (Option Nat×Nat)} {u:qH},rT M J n rows vals rc→
  (∀p∈parts,p.1<n)→zQ (uf M) parts aO→tN M.h rows parts=some (out,u)→(J++u.map (·.1)).Nodup→
  ∃res HT,Instr.fill (fun i=>some (i*1,1)) vals aO=some res∧rT M (J++u.map (·.1)) n out res HT∧(∀p∈u,p.2=.gone)
 |[],[],J,rows,out,vals,rc,u,I,_,_,h,_=>by
  cases h
  exact⟨vals,rc,rfl,by simpa using I,by simp⟩
 |(i,v)::parts,(i',rv)::aO,J,rows,out,vals,rc,u,I,aU,hp,h,dB=>by
  obtain⟨⟨hi,hv⟩,hp⟩:=hp
  dsimp only at hi hv
  subst hi
  unfold tN at h
  split at h
  ·rename_i r u1 ht
   split at h
   ·rename_i Y2 us bp
    cases h
    rw[List.map_append,←List.append_assoc] at dB
    have dj:i<n:=aU (i,v) (List.mem_cons_self ..)
    obtain ⟨HT, I', h1, hg⟩ := I.put ok dj hv ht (fun p hp hm=>by
     have:=(List.nodup_append.1 (List.nodup_append.1 dB).1).2.2 p.1 hm p.1 (List.mem_map_of_mem hp)
     exact this rfl)
    obtain⟨res,rc2,b1,b2,b3⟩:=Y1 ok I' (fun p hp=>aU p (List.mem_cons_of_mem _ hp)) hp bp dB
    refine⟨res,rc2,?_,by rw[List.map_append,←List.append_assoc];exact b2,fun p hp=>?_⟩
    ·rw[On _ vals i rv aO (i*1) 1 rfl h1 (by rw[I.size];omega),Nat.mul_one];exact b1
    ·rcases List.mem_append.1 hp with hp|hp
     ·exact hg p hp
     ·exact b3 p hp
   ·cases h
  ·cases h
 |[],_::_,_,_,_,_,_,_,_,_,hh,_,_=>hh.elim
 |_::_,[],_,_,_,_,_,_,_,_,hh,_,_=>hh.elim
theorem Ot {j:Nat}:∀{u:qH} {h:Hp},(∀p∈u,p.2=.gone)→j∈u.map (·.1)→qP h u j=some .gone
 |(id,o)::u,h,hg,hj=>by
  have ho:o=.gone:=hg (id,o) (List.mem_cons_self ..)
  subst ho
  by_cases hm:j∈u.map (·.1)
  ·exact Ot (u:=u) (fun p hp=>hg p (List.mem_cons_of_mem _ hp)) hm
  ·have e:j=id:=by
    simp only[List.map_cons,List.mem_cons] at hj
    exact hj.resolve_right hm
   subst e
   show qP (yM h j .gone) u j=_
   rw[HK]
   ·exact yQ _ _ _
   ·rw[Bool.eq_false_iff]
    intro hc
    obtain⟨p,hp,hb⟩:=List.any_eq_true.1 hc
    exact hm (List.mem_map.2 ⟨p,hp,Nat.eq_of_beq_eq_true hb⟩)
theorem yd {n:Nat}{u:qH}{h:Hp}(hn:n∉u.map (·.1)):qP h u n=h n:=by
 refine HK h ?_
 rw[Bool.eq_false_iff]
 intro hc
 obtain⟨p,hp,hb⟩:=List.any_eq_true.1 hc
 exact hn (List.mem_map.2 ⟨p,hp,Nat.eq_of_beq_eq_true hb⟩)
theorem vK8 {P:Program}{M:zC}{w:World}(ok:Ok M)(hM:M.H=w.heap){nm n c:Nat}{rows:List (List Int)}{res:Array Value}{rc:List (Option Nat×Nat)}{J:List Nat}{u:qH}{e:TypeId}{s:Sem Value}
  (aT:M.h nm=none) (I:rT M J n rows (res.extract 0 n) rc) (hJ:∀j,j∈J→j∈u.map (·.1)) (hg:∀p∈u,p.2=.gone∧∃o,M.h p.1=some o∧o.owned=true) (hc:n≤c) (hs:c≤res.size)
  (w':World) (hw:w'.heap=w.heap.push (.cells res e)∧w'.os=w.os∧w'.tape=w.tape∧w'.output=w.output)
  (hr:s.run P w=.ok (.slice (some ⟨w.heap.size,0,none⟩) n c) w'):qQ P s M w (.c (.osl nm none)) (u++[(nm,.mat 0 rows)]):=by
 let C:zT:=⟨some M.H.size,n,1,0,rc⟩
 have Ou:nm∉u.map (·.1):=fun hm=>by
  obtain⟨p,hp,e⟩:=List.mem_map.1 hm
  obtain⟨_,o,ho,_⟩:=hg p hp
  rw[e,aT] at ho;cases ho
 have aP:∀R∈rc.filterMap (·.1),∃j C,(j∈u.map (·.1))∧M.κ j=some C∧R∈C.fp:=fun R hR=>by
  obtain⟨j,hj,C,hC,hm⟩:=I.of R hR
  exact⟨j,C,hJ j hj,hC,hm⟩
 have DJ:∀R∈rc.filterMap (·.1),R<M.H.size:=fun R hR=>by
  obtain⟨j,hj,C,hC,hm⟩:=I.of R hR
  obtain⟨ys,hy⟩:=I.js j hj
  exact(ok.own R ⟨j,_,C,hy,rfl,hC,hm⟩).2
 have hh:∀n',(qP M.h (u++[(nm,.mat 0 rows)])) n'=if n'=nm then some (.mat 0 rows) else qP M.h u n':=fun n'=>by
  rw[jt,NV]
  by_cases e:n'=nm
  ·rw[if_pos e,e,yQ]
  ·rw[if_neg e,yZ _ _ e]
 have:=zC.move_ok (M:=M) (nm:=nm) (o':=.mat 0 rows) (C':=C) (h':=qP M.h (u++[(nm,.mat 0 rows)])) (H':=M.H.push (.cells res e)) ok (fun j=>j∈u.map (·.1)) aT
  (fun j hj=>by
   obtain⟨p,hp,e⟩:=List.mem_map.1 hj
   obtain⟨_,o,ho,fZ⟩:=hg p hp
   refine⟨o,by rw[←e];exact ho,fZ,?_⟩
   have bn:j≠nm:=fun e'=>Ou (by rw[←e'];exact hj)
   rw[hh,if_neg bn]
   exact Ot (fun p hp=>(hg p hp).1) hj)
  (by rw[hh,if_pos rfl]) (fun n' h1 h2=>by rw[hh,if_neg h2];exact yd h1) (by simp) (fun b hb _=>lh hb) (fun b hb=>xQ (lh hb))
  (fun b hb=>by
   simp only[C,zT.fp,Option.toList_some,List.singleton_append,List.mem_cons] at hb
   rcases hb with rfl|hb
   ·exact .inl ⟨Nat.le_refl _,by simp⟩
   ·exact .inr (by
     obtain⟨j,C,h1,h2,h3⟩:=aP b hb
     exact⟨j,C,h1,h2,h3⟩))
  (fun x=>by
   refine⟨rfl,I.len.symm,rfl,by rw[I.len];exact I.rlen,?_,res,e,tQ,by rw[I.len];omega,fun k hk=>?_⟩
   ·simp only[C,zT.fp,Option.toList_some,List.singleton_append]
    exact List.nodup_cons.2 ⟨fun hm=>by have:=DJ _ hm;omega,I.nd⟩
   ·obtain⟨rb,v,p1,p2,p3,p4⟩:=I.row k hk
    have Ov:k<n:=by rw[←I.len];exact hk
    refine⟨rb,v,p1,?_,p3.ext x,fun R hR=>?_⟩
    ·rw[Array.getElem?_extract] at p2
     split at p2
     ·simpa using p2
     ·cases p2
    ·obtain⟨rv,er,p5,p6⟩:=p4 R hR
     refine⟨rv,er,?_,p6⟩
     have:R<M.H.size:=DJ R (List.mem_filterMap.2 ⟨_,List.mem_of_getElem? p1,hR⟩)
     show(M.H.push _)[R]? =_
     rw[lh this];exact p5)
 refine⟨_,_,_,hr,hw.2.1,hw.2.2.1,hw.2.2.2,by show M.H.push _=_;rw[hw.1,hM],rfl,this.1,this.2,C,κset_same _ _ _,_,c,rfl,?_⟩
 refine⟨hc,0,by rw[hM],.inr (by simp),?_⟩
 have:qZ (M.H.push (.cells res e)) M.H.size=res.size:=by simp[qZ]
 show(0+c)*1≤qZ (M.H.push (.cells res e)) M.H.size
 rw[this];omega
theorem vLj {P:Program}{M:zC}{w:World}(ok:Ok M)(hM:M.H=w.heap){mat:Bool}{nm:Nat}{t:TypeId}{n:Nat}{parts:List (Nat×zI)}{aO:List (Nat×Value)}{v:zI}{u:qH}
  (hp:zQ (uf M) parts aO) (h:yN (xB P mat nm M.h t n parts) v u):qQ P (Instr.buildSlice t n aO.toArray) M w v u:=by
 unfold xB at h
 split at h
 ·rename_i e hu aT
  obtain⟨cR,h⟩:=fm h
  have cR:=Nat.le_of_ble_eq_true cR
  cases mat with
  |true=>
   simp only[cond_true] at h
   split at h
   ·rename_i rows u' dC hf
    obtain⟨hb,h⟩:=fm h
    simp only[Bool.and_eq_true] at hb
    obtain⟨_,rfl,rfl⟩:=fE h
    obtain⟨i,z,h1,h2,h3,h4,h5,h6,h7⟩:=nS dC
    have ya:z.cells.toList=[.slice none 0 0]:=h4
    have DI:z.cells.size=1:=h7
    have I0:rT M [] n (List.replicate n []) (madeCells z.cells (n*1)) (List.replicate n (none,0)):=by
     have HR:(List.replicate n ((none,0):Option Nat×Nat)).filterMap (·.1)=[]:=by
      rw[List.filterMap_eq_nil_iff]
      intro a ha
      rw[List.eq_of_mem_replicate ha]
     refine⟨by simp,by rw[size_madeCells,Nat.mul_one],by simp,fun k hk=>?_,by rw[HR];exact List.nodup_nil,by rw[HR];simp,by simp⟩
     have Ov:k<n:=by simpa using hk
     refine⟨none,.slice none 0 0,by simp[Ov],?_,⟨rfl,by simp⟩,fun R hR=>by cases hR⟩
     simp only[madeCells,Nat.mul_one]
     rw[Array.getElem?_map,Array.getElem?_range]
     simp only[Ov,if_true,Option.map_some,DI,Nat.mod_one]
     rw[getElem!_pos z.cells 0 (by omega)]
     have:z.cells.toList[0]'(by simp;omega)=.slice none 0 0:=by simp only[ya,List.getElem_cons_zero]
     simpa using this
    obtain⟨res,rc,b1,b2,b3⟩:=Y1 ok I0 (Y0 hb.2) hp hf (by simpa using yc hb.1)
    rw[List.nil_append] at b2
    have hr:=YZ (P:=P) (w:=w) (ty:=.sl (.int .i64)) hu h1 h2 h3 cR b1
    have Ow:res.extract 0 n=res:=by
     have:=b2.size
     apply Array.ext_getElem?
     intro j
     rw[Array.getElem?_extract]
     split
     ·simp
     ·rw[Array.getElem?_eq_none (by omega)]
    refine vK8 ok hM aT (by rw[Ow];exact b2) (fun j hj=>hj) (fun p hp=>⟨b3 p hp,?_⟩) (Nat.le_refl n) (by rw[b2.size];exact Nat.le_refl _) (w.alloc (.cells res e)) ⟨rfl,rfl,rfl,rfl⟩ hr
    obtain⟨ys,hy⟩:=b2.js p.1 (List.mem_map_of_mem hp)
    exact⟨_,hy,rfl⟩
   ·exact h.elim
  |false=>
   simp only[cond_false] at h
   split at h
   ·rename_i ty dC
    split at h
    ·rename_i xs u' hf
     obtain⟨hb,h⟩:=fm h
     obtain⟨_,rfl,rfl⟩:=fE h
     exact vIu ok hM hp hu aT dC cR (Y0 hb) hf
    ·exact h.elim
   ·exact h.elim
 ·exact h.elim
theorem Ox {H:Array Go.Obj}{F:Nat→Prop}:∀(t:Ty) (x:t.den) (rd:Nat→Option Value),qF H F t x rd→∀j,j<t.size→∃v,rd j=some v∧v.one1=true
 |.int k,x,rd,h,j,hj=>by
  simp only[Ty.size] at hj
  obtain rfl:j=0:=by omega
  exact⟨_,h,rfl⟩
 |.bool,x,rd,h,j,hj=>by
  simp only[Ty.size] at hj
  obtain rfl:j=0:=by omega
  exact⟨_,h,rfl⟩
 |.sl t,x,rd,h,j,hj=>by
  simp only[Ty.size] at hj
  obtain rfl:j=0:=by omega
  simp only[qF] at h
  obtain⟨A,n,c,h1,_⟩:=h
  exact⟨_,h1,rfl⟩
 |.pair a b,x,rd,h,j,hj=>by
  simp only[qF] at h
  simp only[Ty.size] at hj
  by_cases aU:j<a.size
  ·exact Ox a _ _ h.1 j aU
  ·have:=Ox b _ _ h.2 (j-a.size) (by omega)
   rwa [show j-a.size+a.size=j by omega] at this
def Rd (H : Array Go.Obj) (v : Value) (n size : Nat) (news : List Value) : Prop := ∃ A c, v = .slice A n c ∧ news.length = n * size ∧ (∀ u ∈ news, u.one1 = true) ∧ (match A with
 |none=>n=0
 |some a=>n=0∨a.spot=none∧∀j u,news[j]? =some u→yF H a.block (a.off+j)=some u)
theorem Rd.first {P:Program}{H:Array Go.Obj}{v:Value}{n size:Nat}{news:List Value}(h:Rd H v n size news)(w:World)(hw:w.heap=H):(Builtin.firstCells size n v).run P w=.ok news.toArray w:=by
 obtain⟨A,c,rfl,hl,_,h⟩:=h
 cases A with
 |none=>
  have h0:n=0:=h
  subst h0
  have:news=[]:=List.eq_nil_of_length_eq_zero (by simpa using hl)
  subst this
  exact run_firstCells_none w size 0 0 c
 |some a=>
  rcases h with h0|⟨hs,h⟩
  ·subst h0
   have:news=[]:=List.eq_nil_of_length_eq_zero (by simpa using hl)
   subst this
   simp[Builtin.firstCells,loadCells,loadCellsFrom]
  ·obtain⟨B,o,sp⟩:=a
   cases hs
   exact run_firstCells_some w size n ⟨B,o,none⟩ n c news hl (fun j u hu=>by rw[Addr.add_lit,oZ,hw];exact h j u hu)
theorem Oy {H:Array Go.Obj}{F:Nat→Prop}{t:Ty}{ys:List t.den}{B o c:Nat}(hc:ys.length≤c)(h:∀i (hi:i<ys.length),qF H F t ys[i] (fun j=>yF H B (o+i*t.size+j))):
  ∃news,Rd H (.slice (some ⟨B,o,none⟩) ys.length c) ys.length t.size news∧∀i (hi:i<ys.length),qF H F t ys[i] (fun j=>news[i*t.size+j]?):=by
 have tot:∀k,k<ys.length*t.size→∃v,yF H B (o+k)=some v∧v.one1=true:=by
  intro k hk
  have hi:k/t.size<ys.length:=Nat.div_lt_of_lt_mul (by rw[Nat.mul_comm];exact hk)
  obtain⟨v,h1,h2⟩:=Ox t _ _ (h _ hi) (k%t.size) (Nat.mod_lt _ t.size_pos)
  refine⟨v,?_,h2⟩
  rw[Nat.add_assoc,Nat.mul_comm,Nat.div_add_mod] at h1
  exact h1
 refine⟨(List.range (ys.length*t.size)).map fun k=>(yF H B (o+k)).getD undef,⟨_,c,rfl,by simp,fun u hu=>?_,.inr ⟨rfl,fun j u hu=>?_⟩⟩,fun i hi=>?_⟩
 ·obtain⟨k,hk,rfl⟩:=List.mem_map.1 hu
  obtain⟨v,h1,h2⟩:=tot k (List.mem_range.1 hk)
  rw[h1];exact h2
 ·have hj:j<ys.length*t.size:=by
   rcases Nat.lt_or_ge j (ys.length*t.size) with h|h
   ·exact h
   ·rw[List.getElem?_eq_none (by simpa using h)] at hu;cases hu
  obtain⟨v,h1,h2⟩:=tot j hj
  simp only[List.getElem?_map,List.getElem?_range hj,Option.map_some,h1,Option.getD_some,Option.some.injEq] at hu
  rw[←hu];exact h1
 ·refine yS (fun _ h=>h) (fun _ _=>rfl) t _ _ _ (fun j hj=>?_) (h i hi)
  have aP:=Nat.mul_le_mul_right t.size (show i+1≤ys.length by omega)
  rw[Nat.add_mul] at aP
  have hk:i*t.size+j<ys.length*t.size:=by omega
  obtain⟨v,h1,h2⟩:=tot _ hk
  simp only[List.getElem?_map,List.getElem?_range hk,Option.map_some,h1,Option.getD_some]
  rw[Nat.add_assoc];exact h1.symm
theorem DK {H:Array Go.Obj}{F:Nat→Prop}{t:Ty}{A:Option Addr}{c:Nat}:∃news,Rd H (.slice A 0 c) 0 t.size news∧∀i (hi:i<([]:List t.den).length),qF H F t ([]:List t.den)[i] (fun j=>news[i*t.size+j]?):=
 ⟨[],⟨A,c,rfl,by simp,by simp,by cases A with
  |none=>rfl
  |some a=>exact .inl rfl⟩,fun i hi=>by simp at hi⟩
theorem Oz {H:Array Go.Obj}{F:Nat→Prop}{t:Ty}{ys:List t.den}{v:Value}(h:qF H F (.sl t) ys (fun _=>some v)):
  ∃news,Rd H v ys.length t.size news∧∀i (hi:i<ys.length),qF H F t ys[i] (fun j=>news[i*t.size+j]?):=by
 simp only[qF,Option.some.injEq] at h
 obtain⟨A,n,c,rfl,rfl,hc,h⟩:=h
 rcases h with⟨rfl,_⟩|⟨B,o,rfl,hB,hE⟩
 ·exact DK
 ·exact Oy hc hE
theorem uh {M:zC}{own:Bool}{t:Ty}{xs:List t.den}{C:zT}{id:Nat}{r:Option (Nat×Nat)}{v:Value}(hC:M.κ id=some C)(hO:yU M (.arr own t xs) C)(hv:zZ M (.osl id r) v):
  ∃news,Rd M.H v (gq xs r).length t.size news∧∀i (hi:i<(gq xs r).length),qF M.H M.G t (gq xs r)[i] (fun j=>news[i*t.size+j]?):=by
 obtain⟨h1,h2,h3,h4⟩:=hO
 obtain⟨C',aC,hv⟩:=hv
 rw[hC] at aC;cases aC
 have key:∀lo n,lo+n≤C.len→wK M.H C lo n v→∃news,Rd M.H v (yB xs lo n).length t.size news∧∀i (hi:i<(yB xs lo n).length),qF M.H M.G t (yB xs lo n)[i] (fun j=>news[i*t.size+j]?):=by
  intro lo n hn hS
  obtain⟨A,c,rfl,hS⟩:=hS
  have hl:=xT (xs:=xs) (lo:=lo) (n:=n) (by omega)
  by_cases h0:n=0
  ·subst h0
   have e:yB xs lo 0=[]:=by simp[yB]
   rw[e];exact DK
  ·cases hB:C.blk with
   |none=>rw[hB] at hS;omega
   |some B=>
    rw[hB] at hS h4
    obtain⟨hc,a,rfl,ha,_⟩:=hS
    obtain⟨vals,e,h5,h6,h7,h8⟩:=h4
    have mb:a=lo*C.sz:=by rcases ha with ha|ha<;>omega
    have := Oy (H := M.H) (F := M.G) (ys := yB xs lo n) (B := B) (o := a) (c := c) (by omega) (fun i hi=>by
     obtain⟨bM,e1⟩:=HG hi
     rw[e1]
     refine yS (fun _ h=>h) (fun _ _=>rfl) t _ _ _ (fun j hj=>?_) (h8 (lo+i) bM)
     rw[mb,h2,←Nat.add_mul]
     simp only[yF,h5])
    obtain⟨news,k1,k2⟩:=this
    rw[hl] at k1
    exact⟨news,by rw[hl];exact k1,k2⟩
 cases r with
 |none=>
  have:=key 0 C.len (by omega) hv
  rw[h1,Ys] at this
  exact this
 |some p=>exact key p.1 p.2 hv.1 hv.2.1
theorem nT {P:Program}{w:World}{t e:TypeId}{i:TypeInfo}{A:Option Addr}{sLen sCap n size:Nat}{x:Value}{news:List Value}(T:TypeId)(hu:P.underlying t=some (.slice e))(hi:P.info? e=some i)(hs:i.size=size)
  (hx : Rd w.heap x n size news) (aQ : sLen + n ≤ sCap) (w' : World) (hw:match A with
   |none=>w'=w
   |some a=>(storeCells (a.add (sLen*size)) news).run P w=.ok () w'):
  (Builtin.append_ #[t,t] T #[.slice A sLen sCap,x]).run P w=.ok (.slice A (sLen+n) sCap) w':=by
 have hf:=hx.first (P:=P) w rfl
 obtain⟨X,c,rfl,_⟩:=hx
 subst hs
 cases A with
 |none=>
  subst hw
  simp[Builtin.append_,run_underlying hu,sizeOf,typeInfo,hi,Builtin.lenOf,aQ,hf]
 |some a=>simp[Builtin.append_,run_underlying hu,sizeOf,typeInfo,hi,Builtin.lenOf,aQ,hf,hw]
theorem OA {P:Program}{w:World}{t e:TypeId}{i:TypeInfo}{z:Value}{A:Option Addr}{sLen sCap n size:Nat}{x:Value}{olds news:List Value}(T:TypeId)(hu:P.underlying t=some (.slice e))(hi:P.info? e=some i)(hz:i.zero=some z)
  (hs:i.size=size) (hb:Rd w.heap (.slice A sLen sCap) sLen size olds) (hx:Rd w.heap x n size news) (hg:sCap<sLen+n) (h46:(sLen+n)*i.bytes≤70368744177664) (aak:sLen+n≤70368744177664):
  (Builtin.append_ #[t,t] T #[.slice A sLen sCap,x]).run P w=
   .ok (.slice (some ⟨w.heap.size,0,none⟩) (sLen+n) (grownCap w (sLen+n) sCap e)) (w.drew.alloc (.cells (olds.toArray++news.toArray++Builtin.zeroCells z.cells (grownCap w (sLen+n) sCap e-(sLen+n))) e)):=by
 have hf:=hx.first (P:=P) w.drew rfl
 have hfo:=hb.first (P:=P) w.drew rfl
 obtain⟨X,c,rfl,_⟩:=hx
 subst hs
 have hn:¬(sLen+n≤sCap):=by omega
 have OB:¬(9223372036854775807<((sLen:Int)+(n:Int))):=by omega
 have OC:¬(281474976710656<Builtin.nextslicecap (sLen+n) sCap*i.bytes):=by
  have:=growslice_fits (bytes:=i.bytes) hg (by omega)
  omega
 simp[Builtin.append_,run_underlying hu,sizeOf,typeInfo,zeroValue,hi,hz,Builtin.lenOf,hn,OB,OC,Question.forced,hf,hfo,newRow,grownCap]
 congr 2
 apply Array.ext'
 simp[List.append_assoc]
theorem ye (z:Array Value)(n:Nat):(Builtin.zeroCells z n).size=n*z.size:=by simp[Builtin.zeroCells]
theorem OD {H:Array Go.Obj}{F:Nat→Prop}{t:Ty}{xs ys:List t.den}{olds news:List Value}(hl:olds.length=xs.length*t.size)(hx:∀i (h:i<xs.length),qF H F t xs[i] (fun j=>olds[i*t.size+j]?))
  (hy:∀i (h:i<ys.length),qF H F t ys[i] (fun j=>news[i*t.size+j]?)):∀i (h:i<(xs++ys).length),qF H F t (xs++ys)[i] (fun j=>(olds++news)[i*t.size+j]?):=by
 intro i hi
 by_cases h:i<xs.length
 ·rw[List.getElem_append_left h]
  refine yS (fun _ h=>h) (fun _ _=>rfl) t _ _ _ (fun j hj=>?_) (hx i h)
  have:=Nat.mul_le_mul_right t.size (show i+1≤xs.length by omega)
  rw[Nat.add_mul] at this
  rw[List.getElem?_append_left (by omega)]
 ·rw[List.getElem_append_right (by omega)]
  refine yS (fun _ h=>h) (fun _ _=>rfl) t _ _ _ (fun j hj=>?_) (hy (i-xs.length) (by rw[List.length_append] at hi;omega))
  have:=Nat.mul_le_mul_right t.size (show xs.length≤i by omega)
  rw[List.getElem?_append_right (by omega),hl]
  congr 1
  rw[Nat.sub_mul];omega
def DL (M:zC)(w:World)(v:zI)(u:qH)(rv:Value)(w':World):Prop:=
 ∃M',w'.os=w.os∧w'.tape=w.tape∧w'.output=w.output∧M'.H=w'.heap∧M'.h=qP M.h u∧Ok M'∧yY M M'∧qA M' v rv
theorem DL.runs {P:Program}{s:Sem Value}{M:zC}{w w':World}{v:zI}{u:qH}{rv:Value}(h:DL M w v u rv w')(hr:s.run P w=.ok rv w'):qQ P s M w v u:=by
 obtain⟨M',h⟩:=h
 exact⟨_,_,M',hr,h⟩
theorem Y3 {M:zC}{w:World}(ok:Ok M)(hM:M.H=w.heap){nm:Nat}{t:Ty}{zs:List t.den}{us:Array Value}{e:TypeId}{c:Nat}{u:qH}(aT:M.h nm=none)
  (hg:∀p∈u,p.2=.gone∧∃o,M.h p.1=some o∧o.owned=true) (hc:zs.length≤c) (hs:c*t.size≤us.size) (hx:∀i (h:i<zs.length),qF M.H M.G t zs[i] (fun j=>us[i*t.size+j]?))
  {w':World} (hw:w'.heap=w.heap.push (.cells us e)∧w'.os=w.os∧w'.tape=w.tape∧w'.output=w.output):
  DL M w (.c (.osl nm none)) (u++[(nm,.arr true t zs)]) (.slice (some ⟨w.heap.size,0,none⟩) zs.length c) w':=by
 let C:zT:=⟨some M.H.size,zs.length,t.size,0,[]⟩
 have Ou:nm∉u.map (·.1):=fun hm=>by
  obtain⟨p,hp,e⟩:=List.mem_map.1 hm
  obtain⟨_,o,ho,_⟩:=hg p hp
  rw[e,aT] at ho;cases ho
 have hh:∀n',(qP M.h (u++[(nm,.arr true t zs)])) n'=if n'=nm then some (.arr true t zs) else qP M.h u n':=fun n'=>by
  rw[jt,NV]
  by_cases e:n'=nm
  ·rw[if_pos e,e,yQ]
  ·rw[if_neg e,yZ _ _ e]
 have hle:=Nat.mul_le_mul_right t.size hc
 have:=zC.move_ok (M:=M) (nm:=nm) (o':=.arr true t zs) (C':=C) (h':=qP M.h (u++[(nm,.arr true t zs)])) (H':=M.H.push (.cells us e)) ok (fun j=>j∈u.map (·.1)) aT
  (fun j hj=>by
   obtain⟨p,hp,e⟩:=List.mem_map.1 hj
   obtain⟨_,o,ho,fZ⟩:=hg p hp
   refine⟨o,by rw[←e];exact ho,fZ,?_⟩
   have bn:j≠nm:=fun e'=>Ou (by rw[←e'];exact hj)
   rw[hh,if_neg bn]
   exact Ot (fun p hp=>(hg p hp).1) hj)
  (by rw[hh,if_pos rfl]) (fun n' h1 h2=>by rw[hh,if_neg h2];exact yd h1) (by simp) (fun b hb _=>lh hb) (fun b hb=>xQ (lh hb))
  (fun b hb=>by
   simp only[C,zT.fp,Option.toList_some,List.filterMap_nil,List.append_nil,List.mem_singleton] at hb
   subst hb
   exact .inl ⟨Nat.le_refl _,by simp⟩)
  (fun x=>⟨rfl,rfl,fun _=>rfl,us,e,tQ,fun h=>(by cases h),by omega,fun i hi=>yS x.G x.sameG t _ _ _ (fun _ _=>rfl) (hx i hi)⟩)
 refine⟨_,hw.2.1,hw.2.2.1,hw.2.2.2,by show M.H.push _=_;rw[hw.1,hM],rfl,this.1,this.2,C,κset_same _ _ _,_,c,rfl,?_⟩
 refine⟨hc,0,by rw[hM],.inr (by simp),?_⟩
 have:qZ (M.H.push (.cells us e)) M.H.size=us.size:=by simp[qZ]
 show(0+c)*t.size≤qZ (M.H.push (.cells us e)) M.H.size
 rw[this,Nat.zero_add];exact hs
theorem Y4 {P:Program}{M:zC}{w:World}(ok:Ok M)(hM:M.H=w.heap){nm:Nat}{t:Ty}{zs:List t.den}{us:Array Value}{e:TypeId}{s:Sem Value}{c:Nat}{u:qH}(aT:M.h nm=none)
  (hg:∀p∈u,p.2=.gone∧∃o,M.h p.1=some o∧o.owned=true) (hc:zs.length≤c) (hs:c*t.size≤us.size) (hx:∀i (h:i<zs.length),qF M.H M.G t zs[i] (fun j=>us[i*t.size+j]?))
  {w':World} (hr:s.run P w=.ok (.slice (some ⟨w.heap.size,0,none⟩) zs.length c) w') (hw:w'.heap=w.heap.push (.cells us e)∧w'.os=w.os∧w'.tape=w.tape∧w'.output=w.output):
  qQ P s M w (.c (.osl nm none)) (u++[(nm,.arr true t zs)]):=
 (Y3 ok hM aT hg hc hs hx hw).runs hr
theorem Y5 {M:zC}{w:World}(ok:Ok M)(hM:M.H=w.heap){id nm:Nat}{t:Ty}{fW zs:List t.den}{C:zT}{H':Array Go.Obj}{c:Nat}{A:Option Addr}{w':World}
  (ah:M.h id=some (.arr true t fW)) (hC:M.κ id=some C) (aT:M.h nm=none) (dV:H'.size=M.H.size) (hH:∀b,b∉C.fp→H'[b]? =M.H[b]?) (cH:∀b,qZ H' b=qZ M.H b)
  (hx:∀M',yW M M'→M'.H=H'→M'.G=M.G→match C.blk with
   |none=>zs=[]
   |some B=>∃vals e,H'[B]? =some (.cells vals e (0,0))∧zs.length*t.size≤vals.size∧∀i (h:i<zs.length),qF M'.H M'.G t zs[i] (fun j=>vals[i*t.size+j]?))
  (hA:match C.blk with
   |none=>A=none∧zs.length=0∧c=0
   |some B=>zs.length≤c∧∃a,A=some ⟨B,a,none⟩∧(c=0∨a=0)∧c*t.size≤qZ M.H B)
  (hw:w'.heap=H'∧w'.os=w.os∧w'.tape=w.tape∧w'.output=w.output):
  DL M w (.c (.osl nm none)) [(id,.gone),(nm,.arr true t zs)] (.slice A zs.length c) w':=by
 obtain⟨C0,nU,hO⟩:=ok.obj id _ ah
 rw[hC] at nU;cases nU
 obtain⟨fr,ff⟩:=Ds hO
 have bn:id≠nm:=fun e=>by rw[e,aT] at ah;cases ah
 let C':zT:=⟨C.blk,zs.length,t.size,0,[]⟩
 have hh:∀n',(qP M.h [(id,.gone),(nm,.arr true t zs)]) n'=if n'=nm then some (.arr true t zs) else if n'=id then some .gone else M.h n':=fun n'=>by
  show(yM (yM M.h id .gone) nm _) n'=_
  by_cases e:n'=nm
  ·rw[if_pos e,e,yQ]
  ·rw[if_neg e,yZ _ _ e]
   by_cases e2:n'=id
   ·rw[if_pos e2,e2,yQ]
   ·rw[if_neg e2,yZ _ _ e2]
 have:=zC.move_ok (M:=M) (nm:=nm) (o':=.arr true t zs) (C':=C') (h':=qP M.h [(id,.gone),(nm,.arr true t zs)]) (H':=H') ok (fun j=>j=id) aT
  (fun j hj=>⟨.arr true t fW,by rw[hj];exact ah,rfl,by rw[hh,hj,if_neg bn,if_pos rfl]⟩)
  (by rw[hh,if_pos rfl]) (fun n' h1 h2=>by rw[hh,if_neg h2,if_neg h1]) (by omega) (fun b hb hn=>hH b (hn id C rfl hC)) (fun b _=>cH b)
  (fun b hb=>.inr ⟨id,C,rfl,hC,by
   simp only[C',zT.fp,List.filterMap_nil,List.append_nil] at hb
   rw[ff];exact hb⟩)
  (fun x=>by
   refine⟨rfl,rfl,fun _=>rfl,?_⟩
   have:=hx _ x rfl rfl
   show match C.blk with
    |none=>_
    |some B=>_
   cases hB:C.blk with
   |none=>rw[hB] at this;exact this
   |some B=>
    rw[hB] at this
    obtain⟨vals,e,h1,h2,h3⟩:=this
    exact⟨vals,e,h1,fun h=>(by cases h),h2,h3⟩)
 refine⟨_,hw.2.1,hw.2.2.1,hw.2.2.2,by rw[hw.1];rfl,rfl,this.1,this.2,C',κset_same _ _ _,_,c,rfl,?_⟩
 show match C.blk with
  |none=>_
  |some B=>_
 cases hB:C.blk with
 |none=>rw[hB] at hA;exact hA
 |some B=>
  rw[hB] at hA
  obtain⟨h1,a,h2,h3,h4⟩:=hA
  refine⟨h1,a,h2,by simpa using h3,?_⟩
  show(0+c)*t.size≤qZ H' B
  rw[cH,Nat.zero_add];exact h4
theorem OE {P:Program}{M:zC}{w:World}(ok:Ok M)(hM:M.H=w.heap){id nm:Nat}{t:Ty}{fW zs:List t.den}{C:zT}{H':Array Go.Obj}{s:Sem Value}{c:Nat}{A:Option Addr}{w':World}
  (ah:M.h id=some (.arr true t fW)) (hC:M.κ id=some C) (aT:M.h nm=none) (dV:H'.size=M.H.size) (hH:∀b,b∉C.fp→H'[b]? =M.H[b]?) (cH:∀b,qZ H' b=qZ M.H b)
  (hx:∀M',yW M M'→M'.H=H'→M'.G=M.G→match C.blk with
   |none=>zs=[]
   |some B=>∃vals e,H'[B]? =some (.cells vals e (0,0))∧zs.length*t.size≤vals.size∧∀i (h:i<zs.length),qF M'.H M'.G t zs[i] (fun j=>vals[i*t.size+j]?))
  (hA:match C.blk with
   |none=>A=none∧zs.length=0∧c=0
   |some B=>zs.length≤c∧∃a,A=some ⟨B,a,none⟩∧(c=0∨a=0)∧c*t.size≤qZ M.H B)
  (hw:w'.heap=H'∧w'.os=w.os∧w'.tape=w.tape∧w'.output=w.output) (hr:s.run P w=.ok (.slice A zs.length c) w'):
  qQ P s M w (.c (.osl nm none)) [(id,.gone),(nm,.arr true t zs)]:=
 (Y5 ok hM ah hC aT dV hH cH hx hA hw).runs hr
theorem DM {n:Nat}{b:Nat}(h:(Nat.ble (n*b) 70368744177664&&Nat.ble n 70368744177664)=true):n*b≤70368744177664∧n≤70368744177664:=by
 rw[Bool.and_eq_true] at h
 exact⟨Nat.le_of_ble_eq_true h.1,Nat.le_of_ble_eq_true h.2⟩
theorem OF {H H':Array Go.Obj}{F F':Nat→Prop}:∀(t:Ty) (x:t.den) (rd:Nat→Option Value),t.flat=true→qF H F t x rd→qF H' F' t x rd
 |.int k,n,rd,_,h=>h
 |.bool,n,rd,_,h=>h
 |.sl t,xs,rd,hf,_=>by cases hf
 |.pair a b,p,rd,hf,h=>by
  simp only[Ty.flat,Bool.and_eq_true] at hf
  exact⟨OF a _ _ hf.1 h.1,OF b _ _ hf.2 h.2⟩
theorem Y6 {M:zC}{sh:Bool}{s:Ty}{xs:List s.den}{v:Value}(hs:(sh||s.flat)=true)(hv:qF M.H (bif sh then M.G else M.F) (.sl s) xs (fun _=>some v)):
  ∃news,Rd M.H v xs.length s.size news∧∀i (hi:i<xs.length),qF M.H M.G s xs[i] (fun j=>news[i*s.size+j]?):=by
 obtain⟨news,h1,h2⟩:=Oz hv
 refine⟨news,h1,fun i hi=>?_⟩
 cases sh with
 |true=>exact h2 i hi
 |false=>exact OF _ _ _ hs (h2 i hi)
theorem Y7 {M:zC}(ok:Ok M){t:Ty}{x:zL}{ys:List t.den}{u:qH}{v:Value}(hv:zZ M x v)(h:oV M.h t x=some (ys,u)):
  u=[]∧∃news,Rd M.H v ys.length t.size news∧∀i (hi:i<ys.length),qF M.H M.G t ys[i] (fun j=>news[i*t.size+j]?):=by
 unfold oV at h
 split at h
 ·cases h
  have e:v=.slice none 0 0:=hv
  subst e
  exact⟨rfl,DK⟩
 ·rename_i sh s xs
  cases hs:(sh||s.flat) with
  |false=>rw[hs] at h;cases h
  |true=>
   rw[hs] at h
   simp only[cond_true,Option.map_eq_some_iff,Prod.mk.injEq] at h
   obtain⟨zs,hz,rfl,rfl⟩:=h
   obtain⟨e,hz⟩:=iY hz
   subst e
   subst hz
   exact⟨rfl,Y6 hs hv⟩
 ·rename_i sh s xs
  cases hs:(sh||s.flat) with
  |false=>rw[hs] at h;cases h
  |true=>
   rw[hs] at h
   simp only[cond_true,Option.map_eq_some_iff,Prod.mk.injEq] at h
   obtain⟨zs,hz,rfl,rfl⟩:=h
   obtain⟨e,hz⟩:=iY hz
   subst e
   subst hz
   exact⟨rfl,Y6 hs hv.2⟩
 ·rename_i id r
  split at h
  ·rename_i own s xs ah
   simp only[Option.map_eq_some_iff,Prod.mk.injEq] at h
   obtain⟨zs,hz,rfl,rfl⟩:=h
   obtain⟨e,hz⟩:=iY hz
   subst e
   subst hz
   obtain⟨C,hC,hO⟩:=ok.obj _ _ ah
   exact⟨rfl,uh hC hO hv⟩
  ·cases h
 ·cases h
theorem vLh {P:Program}{M:zC}{w:World}(ok:Ok M)(hM:M.H=w.heap){nm:Nat}{t e T:TypeId}{ty:Ty}{x:Value}{ys:List ty.den}{news:List Value}(hu:P.underlying t=some (.slice e))(dC:g9 P e=some ty)(aT:M.h nm=none)
  (hx:Rd M.H x ys.length ty.size news) (hE:∀i (hi:i<ys.length),qF M.H M.G ty ys[i] (fun j=>news[i*ty.size+j]?)) (aQ:ys.length*P.bytesOf e≤70368744177664∧ys.length≤70368744177664):
  qQ P (Builtin.append_ #[t,t] T #[.slice none 0 0,x]) M w (.c (.osl nm none)) [(nm,.arr true ty ys)]:=by
 obtain⟨i,z,h1,h2,h3,h4,h5,h6,h7⟩:=nS dC
 by_cases h0:ys.length=0
 ·have hy:ys=[]:=List.eq_nil_of_length_eq_zero h0
  subst hy
  have hr:=nT (P:=P) (w:=w) (A:=none) (sLen:=0) (sCap:=0) T hu h1 h3 (by rw[←hM];exact hx) (by simp) w rfl
  let C:zT:=⟨none,0,ty.size,0,[]⟩
  have:=zC.move_ok (M:=M) (nm:=nm) (o':=.arr true ty []) (C':=C) (h':=yM M.h nm (.arr true ty [])) (H':=M.H) ok (fun _=>False) aT (fun _ h=>h.elim) (yQ _ _ _)
   (fun n' _ h2=>yZ _ _ h2) (Nat.le_refl _) (fun _ _ _=>rfl) (fun _ _=>rfl) (fun b hb=>by simp[C,zT.fp] at hb) (fun x=>⟨rfl,rfl,fun _=>rfl,rfl⟩)
  exact⟨_,_,M.move nm C (yM M.h nm (.arr true ty [])) M.H,hr,rfl,rfl,rfl,hM,rfl,this.1,this.2,C,κset_same _ _ _,_,_,rfl,rfl,rfl,rfl⟩
 ·have hb:Rd w.heap (.slice none 0 0) 0 ty.size []:=⟨none,0,rfl,by simp,by simp,rfl⟩
  have hr:=OA (P:=P) (w:=w) T hu h1 h2 h3 hb (by rw[←hM];exact hx) (by omega) (by rw[h6] at aQ;rw[Nat.zero_add];exact aQ.1) (by omega)
  simp only[Nat.zero_add] at hr
  have hlen:news.length=ys.length*ty.size:=hx.choose_spec.choose_spec.2.1
  have l9:=grownCap_ge w ys.length 0 e
  refine Y4 (u:=[]) ok hM aT (by simp) l9 ?_ (fun i hi=>?_) hr ⟨rfl,rfl,rfl,rfl⟩
  ·simp only[Array.size_append,List.size_toArray,List.length_nil,ye,h7,hlen,Nat.zero_add,←Nat.add_mul]
   exact Nat.le_of_eq (by congr 1;omega)
  ·refine yS (fun _ h=>h) (fun _ _=>rfl) ty _ _ _ (fun j hj=>?_) (hE i hi)
   have:=Nat.mul_le_mul_right ty.size (show i+1≤ys.length by omega)
   rw[Nat.add_mul] at this
   rw[Array.getElem?_append_left (by simp;omega)]
   simp
theorem OG {P:Program}{M:zC}{w:World}(ok:Ok M)(hM:M.H=w.heap){id nm:Nat}{t e T:TypeId}{ty:Ty}{x b:Value}{fW ys:List ty.den}{r:Option (Nat×Nat)}{news:List Value}(hu:P.underlying t=some (.slice e))(dC:g9 P e=some ty)
  (aT:M.h nm=none) (ah:M.h id=some (.arr true ty fW)) (hb:zZ M (.osl id r) b) (mM:match r with|none=>True|some (lo,_)=>lo=0)
  (hx:Rd M.H x ys.length ty.size news) (hE:∀i (hi:i<ys.length),qF M.H M.G ty ys[i] (fun j=>news[i*ty.size+j]?))
  (aQ:((gq fW r).length+ys.length)*P.bytesOf e≤70368744177664∧(gq fW r).length+ys.length≤70368744177664):
  qQ P (Builtin.append_ #[t,t] T #[b,x]) M w (.c (.osl nm none)) [(id,.gone),(nm,.arr true ty (gq fW r++ys))]:=by
 obtain⟨i,z,h1,h2,h3,h4,h5,h6,h7⟩:=nS dC
 obtain⟨C,hC,hO⟩:=ok.obj id _ ah
 obtain⟨olds,ho,hEo⟩:=uh hC hO hb
 have hlen:news.length=ys.length*ty.size:=hx.choose_spec.choose_spec.2.1
 have kF:olds.length=(gq fW r).length*ty.size:=ho.choose_spec.choose_spec.2.1
 obtain⟨C',aC,hS⟩:=hb
 rw[hC] at aC;cases aC
 have me:∃n,(gq fW r).length=n∧wK M.H C 0 n b:=by
  cases r with
  |none=>exact⟨C.len,by rw[hO.1];rfl,hS⟩
  |some p=>
   obtain⟨lo,n⟩:=p
   have:lo=0:=mM
   subst this
   exact⟨n,xT (by have:=hO.1;have:=hS.1;omega),hS.2.1⟩
 obtain⟨n,hn,A,sCap,rfl,me⟩:=me
 rw[hn] at kF ho aQ
 have bh:=OD (H:=M.H) (F:=M.G) (t:=ty) (xs:=gq fW r) (ys:=ys) (olds:=olds) (news:=news) (by rw[hn];exact kF) hEo hE
 have nV:(gq fW r++ys).length=n+ys.length:=by rw[List.length_append,hn]
 by_cases cS:n+ys.length≤sCap
 ·
  cases hB:C.blk with
  |none=>
   rw[hB] at me
   obtain⟨rfl,rfl,rfl⟩:=me
   have hr:=nT (P:=P) (w:=w) (A:=none) (sLen:=0) (sCap:=0) T hu h1 h3 (by rw[←hM];exact hx) cS w rfl
   rw[←nV] at hr
   refine OE (s:=Builtin.append_ #[t,t] T #[.slice none 0 0,x]) (H':=M.H) ok hM ah hC aT rfl (fun _ _=>rfl) (fun _=>rfl) (fun M' _ _ _=>?_) ?_ ⟨hM.symm,rfl,rfl,rfl⟩ hr
   ·rw[hB]
    exact List.eq_nil_of_length_eq_zero (by omega)
   ·rw[hB]
    exact⟨rfl,by omega,rfl⟩
  |some B=>
   rw[hB] at me
   obtain⟨hc,a,rfl,ha,hs⟩:=me
   obtain⟨k1,k2,k3,k4⟩:=hO
   rw[hB] at k4
   obtain⟨vals,ev,k5,k6,k7,k8⟩:=k4
   rw[Nat.zero_mul] at ha
   rw[Nat.zero_add,k2] at hs
   have cH:qZ M.H B=vals.size:=by simp only[qZ,k5]
   rw[cH] at hs
   have ic:w.heap[B]? =some (.cells vals ev (0,0)):=by rw[←hM];exact k5
   by_cases h0:sCap=0
   ·
    have DN:n=0:=by omega
    have OH:ys.length=0:=by omega
    have hr := nT (P := P) (w := w) (A := some ⟨B, a, none⟩) (sLen := n) (sCap := sCap) T hu h1 h3 (by rw [← hM]; exact hx) cS w (by
     have:news=[]:=List.eq_nil_of_length_eq_zero (by rw[hlen,OH,Nat.zero_mul])
     rw[this];rfl)
    rw[←nV] at hr
    have ya:gq fW r++ys=[]:=List.eq_nil_of_length_eq_zero (by omega)
    refine OE (s:=Builtin.append_ #[t,t] T #[.slice (some ⟨B,a,none⟩) n sCap,x]) (H':=M.H) ok hM ah hC aT rfl (fun _ _=>rfl) (fun _=>rfl) (fun M' _ _ _=>?_) ?_ ⟨hM.symm,rfl,rfl,rfl⟩ hr
    ·rw[hB]
     refine⟨vals,ev,k5,by rw[ya];simp,fun i hi=>?_⟩
     rw[ya] at hi;simp at hi
    ·rw[hB]
     exact⟨by omega,a,rfl,.inl h0,by rw[h0];simp⟩
   ·have kD:a=0:=by rcases ha with ha|ha<;>omega
    subst kD
    have hle:=Nat.mul_le_mul_right ty.size cS
    rw[Nat.add_mul] at hle
    have aG:n*ty.size+news.length≤vals.size:=by omega
    have fH:=run_storeCells_at (P:=P) B (n*ty.size) ev news 0 vals w ic (by simpa using aG) (fun v hv=>tR (hx.choose_spec.choose_spec.2.2.1 v hv))
    simp only[Nat.add_zero] at fH
    have hr:=nT (P:=P) (w:=w) (A:=some ⟨B,0,none⟩) (sLen:=n) (sCap:=sCap) T hu h1 h3 (by rw[←hM];exact hx) cS (w.setRow B (yO vals (n*ty.size) news)) (by show(storeCells (Addr.add ⟨B,0,none⟩ (n*ty.size)) news).run P w=_;rw[Addr.add_lit,Nat.zero_add];exact fH)
    rw[←nV] at hr
    obtain⟨f1,f2,f3,f4⟩:=ma ic (new:=yO vals (n*ty.size) news) (fG aG)
    refine OE (s:=Builtin.append_ #[t,t] T #[.slice (some ⟨B,0,none⟩) n sCap,x]) (H':=(w.setRow B (yO vals (n*ty.size) news)).heap) ok hM ah hC aT (by rw[hM];exact f1)
     (fun b hb=>by rw[hM];exact f3 b fun e=>hb (e▸jV hB)) (fun b=>by rw[hM];exact f4 b) (fun M' xt hH hG=>?_) ?_ ⟨rfl,rfl,rfl,rfl⟩ hr
    ·rw[hB]
     refine⟨_,ev,f2,by rw[nV,fG aG,Nat.add_mul];omega,fun i hi=>?_⟩
     refine yS xt.G xt.sameG ty _ _ _ (fun j hj=>?_) (bh i hi)
     have aP:=Nat.mul_le_mul_right ty.size (show i+1≤n+ys.length by omega)
     rw[Nat.add_mul,Nat.add_mul] at aP
     rw[jC aG]
     by_cases aU:i*ty.size+j<n*ty.size
     ·rw[if_pos aU,List.getElem?_append_left (by omega)]
      obtain⟨A',c',e1,_,_,hold⟩:=ho
      simp only[Value.slice.injEq] at e1
      obtain⟨rfl,_,rfl⟩:=e1
      rcases hold with DN|⟨_,hold⟩
      ·rw[DN] at aU;omega
      ·have ui:i*ty.size+j<olds.length:=by omega
       have:=hold (i*ty.size+j) olds[i*ty.size+j] (List.getElem?_eq_getElem ui)
       rw[List.getElem?_eq_getElem ui,←this]
       simp only[yF,k5,Nat.zero_add]
     ·rw[if_neg aU,if_pos (by omega),List.getElem?_append_right (by omega),kF]
    ·rw[hB]
     exact⟨by omega,0,rfl,.inr rfl,by rw[cH];exact hs⟩
 ·
  have hr:=OA (P:=P) (w:=w) T hu h1 h2 h3 (by rw[←hM];exact ho) (by rw[←hM];exact hx) (by omega) (by rw[h6] at aQ;exact aQ.1) aQ.2
  have l9:=grownCap_ge w (n+ys.length) sCap e
  rw[←nV] at hr l9
  refine Y4 (s:=Builtin.append_ #[t,t] T #[.slice A n sCap,x]) (u:=[(id,.gone)]) ok hM aT (fun p hp=>?_) l9 ?_ (fun i hi=>?_) hr ⟨rfl,rfl,rfl,rfl⟩
  ·simp only[List.mem_singleton] at hp
   subst hp
   exact⟨rfl,_,ah,rfl⟩
  ·simp only[Array.size_append,List.size_toArray,ye,h7,hlen,kF,←Nat.add_mul]
   exact Nat.le_of_eq (by congr 1;omega)
  ·refine yS (fun _ h=>h) (fun _ _=>rfl) ty _ _ _ (fun j hj=>?_) (bh i hi)
   have:=Nat.mul_le_mul_right ty.size (show i+1≤n+ys.length by omega)
   rw[Nat.add_mul,Nat.add_mul] at this
   rw[Array.getElem?_append_left (by simp;omega)]
   simp
def yf (H:Array Go.Obj)(row:List Int)(m:Option (Option Nat×Nat))(c:Option Value):Prop:=∃rb v,m=some (rb,row.length)∧c=some v∧kA H rb row.length v∧
 (∀R,rb=some R→∃rv er,H[R]? =some (.cells rv er (0,0))∧∀j (h':j<row.length),rv[j]? =some (.int .i64 row[j]))
theorem Y8 {M:zC}{ver:Nat}{xs:List (List Int)}{C:zT}(h:yU M (.mat ver xs) C):C.len=xs.length∧C.sz=1∧C.rows.length=xs.length∧C.fp.Nodup∧
  ∃cJ:List Value,cJ.length=xs.length∧(∀k (h:k<xs.length),yf M.H xs[k] C.rows[k]? cJ[k]?)∧
   (match C.blk with
    |none=>xs=[]
    |some B=>∃vals e,M.H[B]? =some (.cells vals e (0,0))∧xs.length≤vals.size∧∀k,k<xs.length→vals[k]? =cJ[k]?):=by
 obtain⟨h1,h2,h3,h4,h5,h6⟩:=h
 refine⟨h2,h3,h4,h5,?_⟩
 cases hB:C.blk with
 |none=>
  rw[hB] at h6
  subst h6
  exact⟨[],rfl,fun k hk=>by simp at hk,rfl⟩
 |some B=>
  rw[hB] at h6
  obtain⟨vals,e,h7,h8,h9⟩:=h6
  have hg:∀k,k<xs.length→(vals.toList.take xs.length)[k]? =vals[k]? :=fun k hk=>by
   rw[List.getElem?_take,if_pos hk];simp
  refine⟨vals.toList.take xs.length,by simp;omega,fun k hk=>?_,vals,e,h7,h8,fun k hk=>(hg k hk).symm⟩
  obtain⟨rb,v,k1,k2,k3,k4⟩:=h9 k hk
  exact⟨rb,v,k1,by rw[hg k hk];exact k2,k3,k4⟩
theorem yf.one {H:Array Go.Obj}{row:List Int}{m:Option (Option Nat×Nat)}{v:Value}(h:yf H row m (some v)):v.one1=true:=by
 obtain⟨rb,v',_,e,h,_⟩:=h
 cases e
 exact h.one
theorem Y9 {M:zC}{xs:List (List Int)}{C:zT}{id:Nat}{v:Value}(hC:M.κ id=some C)(hv:zZ M (.osl id none) v){cJ:List Value}(hl:cJ.length=xs.length)(hlen:C.len=xs.length)(dV:C.sz=1)
  (cQ : ∀ u ∈ cJ, u.one1 = true) (hb:match C.blk with
    |none=>xs=[]
    |some B=>∃vals e,M.H[B]? =some (.cells vals e (0,0))∧xs.length≤vals.size∧∀k,k<xs.length→vals[k]? =cJ[k]?):Rd M.H v xs.length 1 cJ:=by
 obtain⟨C',aC,A,c,rfl,hS⟩:=hv
 rw[hC] at aC;cases aC
 rw[hlen]
 refine⟨A,c,rfl,by omega,cQ,?_⟩
 cases hB:C.blk with
 |none=>
  rw[hB] at hS
  obtain⟨rfl,h0,_⟩:=hS
  show xs.length=0
  omega
 |some B=>
  rw[hB] at hS hb
  obtain⟨hc,a,rfl,ha,_⟩:=hS
  obtain⟨vals,e,h1,h2,h3⟩:=hb
  by_cases h0:xs.length=0
  ·exact .inl h0
  ·refine .inr ⟨rfl,fun j u hu=>?_⟩
   have kD:a=0:=by rcases ha with ha|ha<;>omega
   subst kD
   have hj:j<xs.length:=by
    rcases Nat.lt_or_ge j xs.length with h|h
    ·exact h
    ·rw[List.getElem?_eq_none (by omega)] at hu;cases hu
   simp only[yF,h1,Nat.zero_add]
   rw[h3 j hj];exact hu
theorem Za {C D:zT}(hC:C.fp.Nodup)(hD:D.fp.Nodup)(ee:∀b,b∈C.fp→b∉D.fp):((C.rows++D.rows).filterMap (·.1)).Nodup:=by
 rw[List.filterMap_append]
 refine List.nodup_append.2 ⟨(List.nodup_append.1 hC).2.1,(List.nodup_append.1 hD).2.1,fun a ha b hb e=>?_⟩
 subst e
 exact ee a (by simp only[zT.fp,List.mem_append];exact .inr ha) (by simp only[zT.fp,List.mem_append];exact .inr hb)
theorem HU {P:Program}{M:zC}{w w':World}(ok:Ok M)(hM:M.H=w.heap){id jd nm:Nat}{v1 v2:Nat}{xs ys:List (List Int)}{C Cj C':zT}{s:Sem Value}{A:Option Addr}{c:Nat}{H':Array Go.Obj}
  (ah:M.h id=some (.mat v1 xs)) (cI:M.h jd=some (.mat v2 ys)) (bn:id≠jd) (hC:M.κ id=some C) (dm:M.κ jd=some Cj) (aT:M.h nm=none) (dV:M.H.size≤H'.size)
  (hH:∀b,b<M.H.size→C.blk≠some b→H'[b]? =M.H[b]?) (cH:∀b,b<M.H.size→qZ H' b=qZ M.H b)
  (hl:C'.len=(xs++ys).length) (HV:C'.sz=1) (uj:C'.ver=0) (kG:C'.rows=C.rows++Cj.rows) (mO:∀B,C'.blk=some B→(M.H.size≤B∧B<H'.size)∨C.blk=some B)
  (hx:match C'.blk with
   |none=>xs++ys=[]
   |some B=>∃vals e,H'[B]? =some (.cells vals e (0,0))∧(xs++ys).length≤vals.size∧∀k (h:k<(xs++ys).length),yf M.H (xs++ys)[k] (C.rows++Cj.rows)[k]? vals[k]?)
  (hA:wK H' C' 0 C'.len (.slice A (xs++ys).length c))
  (hw:w'.heap=H'∧w'.os=w.os∧w'.tape=w.tape∧w'.output=w.output) (hr:s.run P w=.ok (.slice A (xs++ys).length c) w'):
  qQ P s M w (.c (.osl nm none)) [(id,.gone),(jd,.gone),(nm,.mat 0 (xs++ys))]:=by
 obtain⟨C0,nU,hO⟩:=ok.obj id _ ah
 rw[hC] at nU;cases nU
 obtain⟨C1,gA,lq⟩:=ok.obj jd _ cI
 rw[dm] at gA;cases gA
 have OI:=hO.2.2.2.2.1
 have Zb:=lq.2.2.2.2.1
 have ee:∀b,b∈C.fp→b∉Cj.fp:=fun b h1 h2=>ok.disj id jd _ _ C Cj b bn ah cI rfl rfl hC dm h1 h2
 have HW:id≠nm:=fun e=>by rw[e,aT] at ah;cases ah
 have hnj:jd≠nm:=fun e=>by rw[e,aT] at cI;cases cI
 have hh:∀n',(qP M.h [(id,.gone),(jd,.gone),(nm,.mat 0 (xs++ys))]) n'=if n'=nm then some (.mat 0 (xs++ys)) else if n'=jd then some .gone else if n'=id then some .gone else M.h n':=fun n'=>by
  show(yM (yM (yM M.h id .gone) jd .gone) nm _) n'=_
  by_cases e:n'=nm
  ·rw[if_pos e,e,yQ]
  ·rw[if_neg e,yZ _ _ e]
   by_cases e2:n'=jd
   ·rw[if_pos e2,e2,yQ]
   ·rw[if_neg e2,yZ _ _ e2]
    by_cases e3:n'=id
    ·rw[if_pos e3,e3,yQ]
    ·rw[if_neg e3,yZ _ _ e3]
 have DO:∀b∈C.fp,b<M.H.size:=fun b hb=>(ok.own b ⟨id,_,C,ah,rfl,hC,hb⟩).2
 have DP:∀b∈Cj.fp,b<M.H.size:=fun b hb=>(ok.own b ⟨jd,_,Cj,cI,rfl,dm,hb⟩).2
 have cM:∀R∈(C.rows++Cj.rows).filterMap (·.1),R∈C.fp∧C.blk≠some R∨R∈Cj.fp:=fun R hR=>by
  rw[List.filterMap_append] at hR
  rcases List.mem_append.1 hR with h|h
  ·refine .inl ⟨by simp only[zT.fp,List.mem_append];exact .inr h,fun e=>?_⟩
   exact(List.nodup_append.1 OI).2.2 R (by simp[e]) R h rfl
  ·exact .inr (by simp only[zT.fp,List.mem_append];exact .inr h)
 have rU:∀R∈(C.rows++Cj.rows).filterMap (·.1),R<M.H.size∧C.blk≠some R:=fun R hR=>by
  rcases cM R hR with⟨h1,h2⟩|h
  ·exact⟨DO R h1,h2⟩
  ·exact⟨DP R h,fun e=>ee R (jV e) h⟩
 have nd':C'.fp.Nodup:=by
  simp only[zT.fp,kG]
  cases hB:C'.blk with
  |none=>simpa using Za OI Zb ee
  |some B=>
   simp only[Option.toList_some,List.singleton_append]
   refine List.nodup_cons.2 ⟨fun hm=>?_,Za OI Zb ee⟩
   have:=rU B hm
   rcases mO B hB with h|h
   ·omega
   ·exact this.2 h
 have:=zC.move_ok (M:=M) (nm:=nm) (o':=.mat 0 (xs++ys)) (C':=C') (h':=qP M.h [(id,.gone),(jd,.gone),(nm,.mat 0 (xs++ys))]) (H':=H') ok (fun j=>j=id∨j=jd) aT
  (fun j hj=>by
   rcases hj with rfl|rfl
   ·exact⟨_,ah,rfl,by rw[hh,if_neg HW,if_neg bn,if_pos rfl]⟩
   ·exact⟨_,cI,rfl,by rw[hh,if_neg hnj,if_pos rfl]⟩)
  (by rw[hh,if_pos rfl]) (fun n' h1 h2=>by rw[hh,if_neg h2,if_neg (fun e=>h1 (.inr e)),if_neg (fun e=>h1 (.inl e))]) dV
  (fun b hb hn=>hH b hb fun e=>hn id C (.inl rfl) hC (jV e)) cH
  (fun b hb=>by
   simp only[zT.fp,kG,List.mem_append] at hb
   rcases hb with hb|hb
   ·cases hB:C'.blk with
    |none=>rw[hB] at hb;simp at hb
    |some B=>
     rw[hB] at hb
     simp at hb
     subst hb
     rcases mO b hB with h|h
     ·exact .inl h
     ·exact .inr ⟨id,C,.inl rfl,hC,jV h⟩
   ·rcases cM b hb with h|h
    ·exact .inr ⟨id,C,.inl rfl,hC,h.1⟩
    ·exact .inr ⟨jd,Cj,.inr rfl,dm,h⟩)
  (fun x=>by
   refine⟨uj,hl,HV,?_,nd',?_⟩
   ·rw[kG,List.length_append,hO.2.2.2.1,lq.2.2.2.1,List.length_append]
   ·cases hB:C'.blk with
    |none=>rw[hB] at hx;exact hx
    |some B=>
     rw[hB] at hx
     obtain⟨vals,e,k1,k2,k3⟩:=hx
     refine⟨vals,e,k1,k2,fun k hk=>?_⟩
     obtain⟨rb,v,q1,q2,q3,q4⟩:=k3 k hk
     refine⟨rb,v,by rw[kG];exact q1,q2,q3.ext x,fun R hR=>?_⟩
     obtain⟨rv,er,q5,q6⟩:=q4 R hR
     have Zc:=rU R (List.mem_filterMap.2 ⟨_,List.mem_of_getElem? q1,hR⟩)
     exact⟨rv,er,by show H'[R]? =_;rw[hH R Zc.1 Zc.2];exact q5,q6⟩)
 exact⟨_,_,M.move nm C' (qP M.h [(id,.gone),(jd,.gone),(nm,.mat 0 (xs++ys))]) H',hr,hw.2.1,hw.2.2.1,hw.2.2.2,hw.1.symm,rfl,this.1,this.2,C',κset_same _ _ _,by rw[hl] at hA⊢;exact hA⟩
theorem OJ {H:Array Go.Obj}{xs:List (List Int)}{rc:List (Option Nat×Nat)}{cJ:List Value}(hl:cJ.length=xs.length)(h:∀k (h:k<xs.length),yf H xs[k] rc[k]? cJ[k]?):∀u∈cJ,u.one1=true:=by
 intro u hu
 obtain⟨k,hk,rfl⟩:=List.getElem_of_mem hu
 have:=h k (by omega)
 rw[List.getElem?_eq_getElem hk] at this
 exact this.one
theorem yZf {P:Program}{M:zC}{w:World}(ok:Ok M)(hM:M.H=w.heap){id jd nm:Nat}{v1 v2:Nat}{t e T:TypeId}{x b:Value}{xs ys:List (List Int)}(hu:P.underlying t=some (.slice e))(dC:g9 P e=some (.sl (.int .i64)))
  (aT:M.h nm=none) (ah:M.h id=some (.mat v1 xs)) (cI:M.h jd=some (.mat v2 ys)) (bn:id≠jd) (hb:zZ M (.osl id none) b) (hx:zZ M (.osl jd none) x)
  (aQ:(xs.length+ys.length)*P.bytesOf e≤70368744177664∧xs.length+ys.length≤70368744177664):
  qQ P (Builtin.append_ #[t,t] T #[b,x]) M w (.c (.osl nm none)) [(id,.gone),(jd,.gone),(nm,.mat 0 (xs++ys))]:=by
 obtain⟨i,z,h1,h2,h3,h4,h5,h6,h7⟩:=nS dC
 obtain⟨C,hC,hO⟩:=ok.obj id _ ah
 obtain⟨Cj,dm,lq⟩:=ok.obj jd _ cI
 obtain⟨a1,a2,a3,a4,olds,a5,a6,a7⟩:=Y8 hO
 obtain⟨b1,b2,b3,b4,news,b5,b6,b7⟩:=Y8 lq
 have ho:=Y9 hC hb a5 a1 a2 (OJ a5 a6) a7
 have hn:=Y9 dm hx b5 b1 b2 (OJ b5 b6) b7
 have nV:(xs++ys).length=xs.length+ys.length:=List.length_append
 have cQ:=OJ b5 b6
 have bh:∀k (h:k<(xs++ys).length),yf M.H (xs++ys)[k] (C.rows++Cj.rows)[k]? (olds++news)[k]? :=by
  intro k hk
  by_cases aU:k<xs.length
  ·rw[List.getElem_append_left aU,List.getElem?_append_left (by omega),List.getElem?_append_left (by omega)]
   exact a6 k aU
  ·rw[List.getElem_append_right (by omega),List.getElem?_append_right (by omega),List.getElem?_append_right (by omega),a3,a5]
   exact b6 _ (by omega)
 obtain⟨C',aC,A,sCap,rfl,me⟩:=hb
 rw[hC] at aC;cases aC
 rw[a1] at ho me
 have pg:i.size=1:=h3
 have DI:z.cells.size=1:=h7
 by_cases cS:xs.length+ys.length≤sCap
 ·cases hB:C.blk with
  |none=>
   rw[hB] at me
   obtain⟨rfl,h0,rfl⟩:=me
   have hr:=nT (P:=P) (w:=w) (A:=none) (sLen:=xs.length) (sCap:=0) T hu h1 pg (by rw[←hM];exact hn) cS w rfl
   rw[←nV] at hr
   have cf:xs++ys=[]:=List.eq_nil_of_length_eq_zero (by omega)
   rw[a1]
   refine HU (C':=⟨none,(xs++ys).length,1,0,C.rows++Cj.rows⟩) (H':=M.H) ok hM ah cI bn hC dm aT (Nat.le_refl _) (fun _ _ _=>rfl) (fun _ _=>rfl) rfl rfl rfl rfl (fun B hB=>by cases hB) cf ⟨none,0,rfl,rfl,(by show(xs++ys).length=0;omega),rfl⟩ ⟨hM.symm,rfl,rfl,rfl⟩ hr
  |some B=>
   rw[hB] at me a7
   obtain⟨hc,a,rfl,ha,hs⟩:=me
   obtain⟨vals,ev,k5,k6,k7⟩:=a7
   rw[Nat.zero_mul] at ha
   rw[Nat.zero_add,a2,Nat.mul_one] at hs
   have cH:qZ M.H B=vals.size:=by simp only[qZ,k5]
   rw[cH] at hs
   have ic:w.heap[B]? =some (.cells vals ev (0,0)):=by rw[←hM];exact k5
   by_cases h0:sCap=0
   ·have hr := nT (P := P) (w := w) (A := some ⟨B, a, none⟩) (sLen := xs.length) (sCap := sCap) T hu h1 pg (by rw [← hM]; exact hn) cS w (by
     have:news=[]:=List.eq_nil_of_length_eq_zero (by omega)
     rw[this];rfl)
    rw[←nV] at hr
    have cf:xs++ys=[]:=List.eq_nil_of_length_eq_zero (by omega)
    rw[a1]
    refine HU (C':=⟨some B,(xs++ys).length,1,0,C.rows++Cj.rows⟩) (H':=M.H) ok hM ah cI bn hC dm aT (Nat.le_refl _) (fun _ _ _=>rfl) (fun _ _=>rfl) rfl rfl rfl rfl (fun B' iA=>.inr (by cases iA;exact hB))
     ⟨vals,ev,k5,by rw[cf];simp,fun k hk=>by rw[cf] at hk;simp at hk⟩ ⟨_,sCap,rfl,(by show(xs++ys).length≤sCap;omega),a,rfl,.inl h0,by rw[h0];simp⟩ ⟨hM.symm,rfl,rfl,rfl⟩ hr
   ·have kD:a=0:=by rcases ha with ha|ha<;>omega
    subst kD
    have aG:xs.length+news.length≤vals.size:=by omega
    have fH:=run_storeCells_at (P:=P) B xs.length ev news 0 vals w ic (by simpa using aG) (fun v hv=>tR (cQ v hv))
    simp only[Nat.add_zero] at fH
    have hr:=nT (P:=P) (w:=w) (A:=some ⟨B,0,none⟩) (sLen:=xs.length) (sCap:=sCap) T hu h1 pg (by rw[←hM];exact hn) cS (w.setRow B (yO vals xs.length news))
     (by show(storeCells (Addr.add ⟨B,0,none⟩ (xs.length*1)) news).run P w=_;rw[Addr.add_lit,Nat.zero_add,Nat.mul_one];exact fH)
    rw[←nV] at hr
    obtain⟨f1,f2,f3,f4⟩:=ma ic (new:=yO vals xs.length news) (fG aG)
    rw[a1]
    refine HU (C':=⟨some B,(xs++ys).length,1,0,C.rows++Cj.rows⟩) (H':=(w.setRow B (yO vals xs.length news)).heap) ok hM ah cI bn hC dm aT (by rw[hM,f1];exact Nat.le_refl _) (fun b hb hn=>by rw[hM];exact f3 b fun e=>hn (e▸hB))
     (fun b _=>by rw[hM];exact f4 b) rfl rfl rfl rfl (fun B' iA=>.inr (by cases iA;exact hB)) ⟨_,ev,f2,by rw[fG aG];omega,fun k hk=>?_⟩ ⟨_,sCap,rfl,(by show(xs++ys).length≤sCap;omega),0,rfl,.inr (by simp),by show(0+sCap)*1≤qZ _ B;rw[f4,←hM,cH];omega⟩ ⟨rfl,rfl,rfl,rfl⟩ hr
    have:=bh k hk
    rw[jC aG]
    by_cases aU:k<xs.length
    ·rw[if_pos aU,k7 k aU]
     rw[List.getElem?_append_left (l₁:=olds) (by omega)] at this
     exact this
    ·rw[if_neg aU,if_pos (by omega)]
     rw[List.getElem?_append_right (l₁:=olds) (by omega),a5] at this
     exact this
 ·have hr:=OA (P:=P) (w:=w) T hu h1 h2 pg (by rw[←hM];exact ho) (by rw[←hM];exact hn) (by omega) (by rw[h6] at aQ;exact aQ.1) aQ.2
  have l9:=grownCap_ge w (xs.length+ys.length) sCap e
  rw[←nV] at hr l9
  generalize lk:olds.toArray++news.toArray++Builtin.zeroCells z.cells (grownCap w (xs++ys).length sCap e-(xs++ys).length)=us at hr
  have OK:us.size=grownCap w (xs++ys).length sCap e:=by
   rw[←lk]
   simp only[Array.size_append,List.size_toArray,ye,DI]
   omega
  have OM:∀k,k<(xs++ys).length→us[k]? =(olds++news)[k]? :=fun k hk=>by
   rw[←lk,Array.getElem?_append_left (by simp;omega)]
   simp
  have hbz:∀us:Array Value,qZ (M.H.push (.cells us e)) M.H.size=us.size:=fun us=>by simp[qZ]
  rw[a1]
  refine HU (C':=⟨some M.H.size,(xs++ys).length,1,0,C.rows++Cj.rows⟩) (H':=M.H.push (.cells us e)) (w':=w.drew.alloc (.cells us e)) ok hM ah cI bn hC dm aT (by simp) (fun b hb _=>lh hb) (fun b hb=>xQ (lh hb)) rfl rfl rfl rfl
   (fun B' iA=>.inl (by cases iA;exact⟨Nat.le_refl _,by simp⟩)) ⟨us,e,tQ,by omega,fun k hk=>?_⟩ ⟨_,_,rfl,l9,0,by rw[hM],.inr (by simp),(by rw[hbz,OK];show(0+_)*1≤_;omega)⟩ ⟨(by rw[hM];rfl),rfl,rfl,rfl⟩ hr
  rw[OM k hk]
  exact bh k hk
theorem rV {c:Bool}{s:yJ}{v:zI}{u:qH}(h:yN (bif c then s else .stuck) v u):c=true∧yN s v u:=by
 cases c with
 |true=>exact⟨rfl,h⟩
 |false=>exact h.elim
theorem Zd {c:Bool}{a b:yJ}{v:zI}{u:qH}(h:yN (bif c then a else b) v u):(c=true∧yN a v u)∨(c=false∧yN b v u):=by
 cases c with
 |true=>exact .inl ⟨rfl,h⟩
 |false=>exact .inr ⟨rfl,h⟩
theorem Ze {z:Value}{t:Ty}(h:z.cells.toList=fB t)(hs:z.cells.size=t.size){n i j:Nat}(hj:j<t.size)(hi:i<n):(Builtin.zeroCells z.cells n).toList[i*t.size+j]? =(fB t)[j]? :=by
 have aP:=Nat.mul_le_mul_right t.size (show i+1≤n by omega)
 rw[Nat.add_mul] at aP
 rw[List.getElem?_eq_getElem (l:=fB t) (by rw[rR];exact hj),←YQ h hs (i:=i) hj]
 simp only[Builtin.zeroCells,Array.getElem?_toList]
 rw[Array.getElem?_map,Array.getElem?_range,if_pos (by rw[hs];omega)]
 rfl
theorem vSv {z:Value}{t:Ty}(h:z.cells.toList=fB t)(hs:z.cells.size=t.size){n:Nat}:∀v∈(Builtin.zeroCells z.cells n).toList,v.one1=true:=by
 intro v hv
 have hz:∀u∈fB t,u.one1=true:=by
  clear h hs hv
  induction t with
  |pair a b ud ue=>
   intro u hu
   rcases List.mem_append.1 hu with hu|hu
   ·exact ud u hu
   ·exact ue u hu
  |_=>
   intro u hu
   rw[List.mem_singleton.1 hu];rfl
 obtain⟨k,hk,rfl⟩:=List.getElem_of_mem hv
 have Du:k<n*t.size:=by rw[Array.length_toList,ye,hs] at hk;exact hk
 have h0:=t.size_pos
 have := Ze h hs (n := n) (i := k / t.size) (j := k % t.size) (Nat.mod_lt _ h0) (by
  rw[Nat.div_lt_iff_lt_mul h0];exact Du)
 rw[Nat.div_add_mod' k t.size,List.getElem?_eq_getElem hk,List.getElem?_eq_getElem (by rw[rR];exact Nat.mod_lt _ h0),Option.some.injEq] at this
 rw[this]
 exact hz _ (List.getElem_mem _)
theorem ON {P:Program}{M:zC}{w:World}(ok:Ok M)(hM:M.H=w.heap){id nm n':Nat}{t:Ty}{fW zs:List t.den}{C:zT}{H':Array Go.Obj}{s:Sem Value}{c:Nat}{A:Option Addr}{w':World}
  (ah:M.h id=some (.arr true t fW)) (hC:M.κ id=some C) (aT:M.h nm=none) (dV:H'.size=M.H.size) (hH:∀b,b∉C.fp→H'[b]? =M.H[b]?) (cH:∀b,qZ H' b=qZ M.H b)
  (hx:∀M',yW M M'→M'.H=H'→M'.G=M.G→match C.blk with
   |none=>zs=[]
   |some B=>∃vals e,H'[B]? =some (.cells vals e (0,0))∧zs.length*t.size≤vals.size∧∀i (h:i<zs.length),qF M'.H M'.G t zs[i] (fun j=>vals[i*t.size+j]?))
  (hn : n' ≤ zs.length) (hc : zs.length ≤ c) (hA:match C.blk with
   |none=>A=none∧n'=0∧c=0
   |some B=>∃a,A=some ⟨B,a,none⟩∧(c=0∨a=0)∧c*t.size≤qZ M.H B)
  (hw:w'.heap=H'∧w'.os=w.os∧w'.tape=w.tape∧w'.output=w.output) (hr:s.run P w=.ok (.slice A n' c) w'):
  qQ P s M w (.c (.osl nm (some (0,n')))) [(id,.gone),(nm,.arr true t zs)]:=by
 obtain⟨C0,nU,hO⟩:=ok.obj id _ ah
 rw[hC] at nU;cases nU
 obtain⟨fr,ff⟩:=Ds hO
 have bn:id≠nm:=fun e=>by rw[e,aT] at ah;cases ah
 let C':zT:=⟨C.blk,zs.length,t.size,0,[]⟩
 have hh:∀n',(qP M.h [(id,.gone),(nm,.arr true t zs)]) n'=if n'=nm then some (.arr true t zs) else if n'=id then some .gone else M.h n':=fun n'=>by
  show(yM (yM M.h id .gone) nm _) n'=_
  by_cases e:n'=nm
  ·rw[if_pos e,e,yQ]
  ·rw[if_neg e,yZ _ _ e]
   by_cases e2:n'=id
   ·rw[if_pos e2,e2,yQ]
   ·rw[if_neg e2,yZ _ _ e2]
 have:=zC.move_ok (M:=M) (nm:=nm) (o':=.arr true t zs) (C':=C') (h':=qP M.h [(id,.gone),(nm,.arr true t zs)]) (H':=H') ok (fun j=>j=id) aT
  (fun j hj=>⟨.arr true t fW,by rw[hj];exact ah,rfl,by rw[hh,hj,if_neg bn,if_pos rfl]⟩)
  (by rw[hh,if_pos rfl]) (fun n' h1 h2=>by rw[hh,if_neg h2,if_neg h1]) (by omega) (fun b hb hn=>hH b (hn id C rfl hC)) (fun b _=>cH b)
  (fun b hb=>.inr ⟨id,C,rfl,hC,by
   simp only[C',zT.fp,List.filterMap_nil,List.append_nil] at hb
   rw[ff];exact hb⟩)
  (fun x=>by
   refine⟨rfl,rfl,fun _=>rfl,?_⟩
   have:=hx _ x rfl rfl
   show match C.blk with
    |none=>_
    |some B=>_
   cases hB:C.blk with
   |none=>rw[hB] at this;exact this
   |some B=>
    rw[hB] at this
    obtain⟨vals,e,h1,h2,h3⟩:=this
    exact⟨vals,e,h1,fun h=>(by cases h),h2,h3⟩)
 refine⟨_,_,_,hr,hw.2.1,hw.2.2.1,hw.2.2.2,by rw[hw.1];rfl,rfl,this.1,this.2,C',κset_same _ _ _,by show 0+n'≤zs.length;omega,⟨_,c,rfl,?_⟩,_,_,_,rfl,by show zs.length≤0+c;omega⟩
 show match C.blk with
  |none=>_
  |some B=>_
 cases hB:C.blk with
 |none=>rw[hB] at hA;exact hA
 |some B=>
  rw[hB] at hA
  obtain⟨a,h2,h3,h4⟩:=hA
  refine⟨by omega,a,h2,by simpa using h3,?_⟩
  show(0+c)*t.size≤qZ H' B
  rw[cH,Nat.zero_add];exact h4
theorem vBr {P:Program}{M:zC}{w:World}(ok:Ok M)(hM:M.H=w.heap){id nm i j m:Nat}{t e T:TypeId}{ty:Ty}{x b:Value}{xs:List ty.den}(hu:P.underlying t=some (.slice e))(dC:g9 P e=some ty)
  (aT:M.h nm=none) (ah:M.h id=some (.arr true ty xs)) (hb:zZ M (.osl id (some (0,i))) b) (hx:zZ M (.osl id (some (j,m))) x) (jq:i≤j):
  qQ P (Builtin.append_ #[t,t] T #[b,x]) M w (.c (.osl nm (some (0,i+m)))) [(id,.gone),(nm,.arr true ty (xs.take i++yB xs j m++xs.drop (i+m)))]:=by
 obtain⟨inf,z,h1,h2,h3,h4,h5,h6,h7⟩:=nS dC
 obtain⟨C,hC,hO⟩:=ok.obj id _ ah
 obtain⟨news,hR,hE⟩:=uh hC hO hx
 obtain⟨C1,gA,cw,_⟩:=hx
 rw[hC] at gA;cases gA
 obtain⟨C1,gA,jv,⟨A,c,rfl,hS⟩,gz⟩:=hb
 rw[hC] at gA;cases gA
 obtain⟨_,_,_,gz,DE⟩:=gz
 cases gz
 have hlen:=hO.1
 have mf:(gq xs (some (j,m))).length=m:=xT (by omega)
 rw[mf] at hR
 have DQ:news.length=m*ty.size:=hR.choose_spec.choose_spec.2.1
 have ph:(yB xs j m).length=m:=mf
 have pj:(xs.take i).length=i:=by rw[List.length_take];omega
 have DR:(xs.take i++yB xs j m++xs.drop (i+m)).length=xs.length:=by
  rw[List.length_append,List.length_append,ph,pj,List.length_drop];omega
 have aQ:i+m≤c:=by omega
 cases hB:C.blk with
 |none=>
  rw[hB] at hS
  obtain⟨rfl,rfl,rfl⟩:=hS
  have hr:=nT (P:=P) (w:=w) (A:=none) (sLen:=0) (sCap:=0) T hu h1 h3 (by rw[←hM];exact hR) aQ w rfl
  refine ON (s:=Builtin.append_ #[t,t] T #[.slice none 0 0,x]) (H':=M.H) ok hM ah hC aT rfl (fun _ _=>rfl) (fun _=>rfl) (fun M' _ _ _=>?_) (by omega) (by omega) ?_ ⟨hM.symm,rfl,rfl,rfl⟩ hr
  ·rw[hB]
   exact List.eq_nil_of_length_eq_zero (by omega)
  ·rw[hB]
   exact⟨rfl,by omega,rfl⟩
 |some B=>
  rw[hB] at hS
  obtain⟨hc,a,rfl,ha,hs⟩:=hS
  obtain⟨k1,k2,k3,k4⟩:=hO
  rw[hB] at k4
  obtain⟨vals,ev,k5,k6,k7,k8⟩:=k4
  rw[Nat.zero_mul] at ha
  rw[Nat.zero_add,k2] at hs
  have cH:qZ M.H B=vals.size:=by simp only[qZ,k5]
  have ic:w.heap[B]? =some (.cells vals ev (0,0)):=by rw[←hM];exact k5
  by_cases h0:c=0
  ·have hm0:m=0:=by omega
   have hr := nT (P := P) (w := w) (A := some ⟨B, a, none⟩) (sLen := i) (sCap := c) T hu h1 h3 (by rw [← hM]; exact hR) aQ w (by
    have:news=[]:=List.eq_nil_of_length_eq_zero (by rw[DQ,hm0,Nat.zero_mul])
    rw[this];rfl)
   refine ON (s:=Builtin.append_ #[t,t] T #[.slice (some ⟨B,a,none⟩) i c,x]) (H':=M.H) ok hM ah hC aT rfl (fun _ _=>rfl) (fun _=>rfl) (fun M' _ _ _=>?_) (by omega) (by omega) ?_ ⟨hM.symm,rfl,rfl,rfl⟩ hr
   ·rw[hB]
    refine⟨vals,ev,k5,by rw[DR];exact k7,fun p hp=>?_⟩
    rw[DR] at hp;omega
   ·rw[hB]
    exact⟨a,rfl,.inl h0,by rw[h0];simp⟩
  ·have kD:a=0:=by rcases ha with ha|ha<;>omega
   subst kD
   have hle:=Nat.mul_le_mul_right ty.size (show i+m≤xs.length by omega)
   rw[Nat.add_mul] at hle
   have aG:i*ty.size+news.length≤vals.size:=by omega
   have fH:=run_storeCells_at (P:=P) B (i*ty.size) ev news 0 vals w ic (by simpa using aG) (fun v hv=>tR (hR.choose_spec.choose_spec.2.2.1 v hv))
   simp only[Nat.add_zero] at fH
   have hr:=nT (P:=P) (w:=w) (A:=some ⟨B,0,none⟩) (sLen:=i) (sCap:=c) T hu h1 h3 (by rw[←hM];exact hR) aQ (w.setRow B (yO vals (i*ty.size) news)) (by show(storeCells (Addr.add ⟨B,0,none⟩ (i*ty.size)) news).run P w=_;rw[Addr.add_lit,Nat.zero_add];exact fH)
   obtain⟨f1,f2,f3,f4⟩:=ma ic (new:=yO vals (i*ty.size) news) (fG aG)
   refine ON (s:=Builtin.append_ #[t,t] T #[.slice (some ⟨B,0,none⟩) i c,x]) (H':=(w.setRow B (yO vals (i*ty.size) news)).heap) ok hM ah hC aT (by rw[hM];exact f1)
    (fun b hb=>by rw[hM];exact f3 b fun e=>hb (e▸jV hB)) (fun b=>by rw[hM];exact f4 b) (fun M' xt hH hG=>?_) (by omega) (by omega) ?_ ⟨rfl,rfl,rfl,rfl⟩ hr
   ·rw[hB]
    refine⟨_,ev,f2,by rw[DR,fG aG];exact k7,fun p hp=>?_⟩
    rw[DR] at hp
    have aP:=Nat.mul_le_mul_right ty.size (show p+1≤xs.length by omega)
    rw[Nat.add_mul] at aP
    have pn:(xs.take i++yB xs j m++xs.drop (i+m))[p]? =xs[p]? →(∀q,q<ty.size→(yO vals (i*ty.size) news)[p*ty.size+q]? =vals[p*ty.size+q]?)→qF M'.H M'.G ty ((xs.take i++yB xs j m++xs.drop (i+m))[p]'(by omega)) (fun q=>(yO vals (i*ty.size) news)[p*ty.size+q]?):=fun e1 e2=>by
     have e3:(xs.take i++yB xs j m++xs.drop (i+m))[p]'(by omega)=xs[p]:=by
      rw[List.getElem?_eq_getElem (by omega),List.getElem?_eq_getElem hp,Option.some.injEq] at e1
      exact e1
     rw[e3]
     exact yS xt.G xt.sameG ty _ _ _ e2 (k8 p hp)
    by_cases HX:p<i
    ·refine pn ?_ fun q hq=>?_
     ·rw[List.append_assoc,List.getElem?_append_left (by omega),List.getElem?_take,if_pos HX]
     ·have:=Nat.mul_le_mul_right ty.size (show p+1≤i by omega)
      rw[Nat.add_mul] at this
      rw[jC aG,if_pos (by omega)]
    ·by_cases DS:p<i+m
     ·have e3:(xs.take i++yB xs j m++xs.drop (i+m))[p]'(by omega)=(gq xs (some (j,m)))[p-i]'(by omega):=by
       rw[List.getElem_append_left (by rw[List.length_append,pj,ph];exact DS),List.getElem_append_right (by omega)]
       simp only[pj];rfl
      rw[e3]
      refine yS xt.G xt.sameG ty _ _ _ (fun q hq=>?_) (hE (p-i) (by omega))
      have q1:=Nat.mul_le_mul_right ty.size (show i≤p by omega)
      have q2:=Nat.mul_le_mul_right ty.size (show p-i+1≤m by omega)
      rw[Nat.add_mul] at q2
      have q3:(p-i)*ty.size=p*ty.size-i*ty.size:=Nat.sub_mul ..
      rw[jC aG,if_neg (by omega),if_pos (by omega)]
      congr 1;omega
     ·refine pn ?_ fun q hq=>?_
      ·rw[List.getElem?_append_right (by rw[List.length_append,pj,ph];omega),List.getElem?_drop]
       congr 1
       rw[List.length_append,pj,ph];omega
      ·have:=Nat.mul_le_mul_right ty.size (show i+m≤p by omega)
       rw[Nat.add_mul] at this
       rw[jC aG,if_neg (by omega),if_neg (by omega)]
   ·rw[hB]
    exact⟨0,rfl,.inr rfl,by rw[←k2] at hs⊢;exact hs⟩
theorem vD7 {P:Program}{M:zC}{w:World}(ok:Ok M)(hM:M.H=w.heap){t T:TypeId}{id lo n:Nat}{rx:Value}{v:zI}{u:qH}(hx:zZ M (.osl id (some (lo,n))) rx)
  (h:yN (Hf P M.h t id lo n) v u):qQ P (Builtin.clear_ #[t] T #[rx]) M w v u:=by
 unfold Hf at h
 split at h
 case h_2=>exact h.elim
 rename_i e s xs hu ah
 split at h
 case h_2=>exact h.elim
 rename_i ty dC
 obtain⟨heq,h⟩:=rV h
 have:=xu heq
 subst this
 obtain⟨_,rfl,rfl⟩:=fE h
 obtain⟨inf,z,h1,h2,h3,h4,h5,h6,h7⟩:=nS dC
 obtain⟨C,hC,cw,⟨A,c,rfl,hS⟩,_⟩:=hx
 obtain⟨C1,gA,hO⟩:=ok.obj id _ ah
 rw[hC] at gA;cases gA
 by_cases DN:n=0
 ·subst DN
  have e0:xs.take lo++List.replicate 0 ty.dflt++xs.drop (lo+0)=xs:=by simp
  rw[e0]
  refine⟨.tuple #[],w,M,?_,rfl,rfl,rfl,hM,?_,ok,yY.refl M,trivial⟩
  ·cases A with
   |none=>simp[Builtin.clear_,run_underlying hu]
   |some a=>simp[Builtin.clear_,run_underlying hu]
  ·rw[NV,Dn ah]
 ·obtain⟨k1,k2,k3,k4⟩:=hO
  cases hB:C.blk with
  |none=>rw[hB] at hS;omega
  |some B=>
   rw[hB] at hS k4
   obtain⟨hc,a,rfl,ha,hs⟩:=hS
   obtain⟨vals,ev,k5,k6,k7,k8⟩:=k4
   have mb:a=lo*ty.size:=by rw[←k2];rcases ha with ha|ha<;>omega
   subst mb
   have ic:w.heap[B]? =some (.cells vals ev (0,0)):=by rw[←hM];exact k5
   have DR:(Builtin.zeroCells z.cells n).toList.length=n*ty.size:=by rw[Array.length_toList,ye,h7]
   have hle:=Nat.mul_le_mul_right ty.size (show lo+n≤xs.length by omega)
   rw[Nat.add_mul] at hle
   have aG:lo*ty.size+(Builtin.zeroCells z.cells n).toList.length≤vals.size:=by omega
   have cQ:∀v∈(Builtin.zeroCells z.cells n).toList,v.one1=true:=vSv h4 h7
   have fH:=run_storeCells_at (P:=P) B (lo*ty.size) ev (Builtin.zeroCells z.cells n).toList 0 vals w ic (by simpa using aG) (fun v hv=>tR (cQ v hv))
   simp only[Nat.add_zero] at fH
   obtain⟨f1,f2,f3,f4⟩:=ma ic (new:=yO vals (lo*ty.size) (Builtin.zeroCells z.cells n).toList) (fG aG)
   have ly:(Builtin.clear_ #[t] T #[.slice (some ⟨B,lo*ty.size,none⟩) n c]).run P w=.ok (.tuple #[]) (w.setRow B (yO vals (lo*ty.size) (Builtin.zeroCells z.cells n).toList)):=by
    obtain⟨n',rfl⟩:∃n',n=n'+1:=⟨n-1,by omega⟩
    have e:(storeCells ⟨B,lo*ty.size,none⟩ (Builtin.zeroCells z.cells (n'+1)).toList).run P w=.ok () (w.setRow B (yO vals (lo*ty.size) (Builtin.zeroCells z.cells (n'+1)).toList)):=fH
    simp[Builtin.clear_,run_underlying hu,zeroValue,typeInfo,h1,h2,e]
   have hH:∀b,b∉C.fp→(w.setRow B (yO vals (lo*ty.size) (Builtin.zeroCells z.cells n).toList)).heap[b]? =M.H[b]? :=fun b mH=>by
    rw[hM];exact f3 b fun e=>mH (e▸jV hB)
   have cH:∀b,b<M.H.size→qZ (w.setRow B (yO vals (lo*ty.size) (Builtin.zeroCells z.cells n).toList)).heap b=qZ M.H b:=fun b _=>by rw[hM];exact f4 b
   have hol:(xs.take lo++List.replicate n ty.dflt++xs.drop (lo+n)).length=xs.length:=by
    simp only[List.length_append,List.length_take,List.length_replicate,List.length_drop];omega
   have x:=zC.write_ext ok ah rfl hC C.le_refl hH cH (.arr true ty (xs.take lo++List.replicate n ty.dflt++xs.drop (lo+n)))
   have := zC.write_ok ok ah rfl hC C.le_refl (fun _ h => h) (by rw [hM]; exact f1) hH cH (o' := .arr true ty (xs.take lo ++ List.replicate n ty.dflt ++ xs.drop (lo + n))) (by
    refine⟨by rw[hol];exact k1,k2,k3,?_⟩
    rw[hB]
    refine⟨_,ev,f2,fun h=>(by cases h),by rw[hol,fG aG];exact k7,fun p hp=>?_⟩
    rw[hol] at hp
    have aP:=Nat.mul_le_mul_right ty.size (show p+1≤xs.length by omega)
    rw[Nat.add_mul] at aP
    have yg:(xs.take lo).length=lo:=by rw[List.length_take];omega
    have pn:(xs.take lo++List.replicate n ty.dflt++xs.drop (lo+n))[p]? =xs[p]? →(∀q,q<ty.size→(yO vals (lo*ty.size) (Builtin.zeroCells z.cells n).toList)[p*ty.size+q]? =vals[p*ty.size+q]?)→
      qF (M.write id (.arr true ty (xs.take lo++List.replicate n ty.dflt++xs.drop (lo+n))) C (w.setRow B (yO vals (lo*ty.size) (Builtin.zeroCells z.cells n).toList)).heap).H (M.write id (.arr true ty (xs.take lo++List.replicate n ty.dflt++xs.drop (lo+n))) C (w.setRow B (yO vals (lo*ty.size) (Builtin.zeroCells z.cells n).toList)).heap).G ty ((xs.take lo++List.replicate n ty.dflt++xs.drop (lo+n))[p]'(by omega)) (fun q=>(yO vals (lo*ty.size) (Builtin.zeroCells z.cells n).toList)[p*ty.size+q]?):=fun e1 e2=>by
     have e3:(xs.take lo++List.replicate n ty.dflt++xs.drop (lo+n))[p]'(by omega)=xs[p]:=by
      rw[List.getElem?_eq_getElem (by omega),List.getElem?_eq_getElem hp,Option.some.injEq] at e1
      exact e1
     rw[e3]
     exact yS x.G x.sameG ty _ _ _ e2 (k8 p hp)
    by_cases HX:p<lo
    ·refine pn ?_ fun q hq=>?_
     ·rw[List.append_assoc,List.getElem?_append_left (by omega),List.getElem?_take,if_pos HX]
     ·have:=Nat.mul_le_mul_right ty.size (show p+1≤lo by omega)
      rw[Nat.add_mul] at this
      rw[jC aG,if_pos (by omega)]
    ·by_cases DS:p<lo+n
     ·have e3:(xs.take lo++List.replicate n ty.dflt++xs.drop (lo+n))[p]'(by omega)=ty.dflt:=by
       rw[List.getElem_append_left (by rw[List.length_append,yg,List.length_replicate];exact DS),List.getElem_append_right (by omega)]
       simp
      rw[e3]
      refine DH ty _ fun q hq=>?_
      have q1:=Nat.mul_le_mul_right ty.size (show lo≤p by omega)
      have q2:=Nat.mul_le_mul_right ty.size (show p-lo+1≤n by omega)
      rw[Nat.add_mul] at q2
      have q3:(p-lo)*ty.size=p*ty.size-lo*ty.size:=Nat.sub_mul ..
      rw[jC aG,if_neg (by omega),if_pos (by omega),show p*ty.size+q-lo*ty.size=(p-lo)*ty.size+q by omega,Ze h4 h7 hq (by omega)]
     ·refine pn ?_ fun q hq=>?_
      ·rw[List.getElem?_append_right (by rw[List.length_append,yg,List.length_replicate];omega),List.getElem?_drop]
       congr 1
       rw[List.length_append,yg,List.length_replicate];omega
      ·have:=Nat.mul_le_mul_right ty.size (show lo+n≤p by omega)
       rw[Nat.add_mul] at this
       rw[jC aG,if_neg (by omega),if_neg (by omega)])
   exact⟨_,_,_,ly,rfl,rfl,rfl,rfl,rfl,this.1,this.2,trivial⟩
theorem vIj {P:Program}{M:zC}{w:World}(ok:Ok M)(hM:M.H=w.heap){mat:Bool}{nm:Nat}{t T:TypeId}{b x v:zI}{u:qH}{rb rx:Value}
  (hb:qA M b rb) (hx:qA M x rx) (h:yN (xH P mat nm M.h t b x) v u):qQ P (Builtin.append_ #[t,t] T #[rb,rx]) M w v u:=by
 unfold xH at h
 split at h
 case h_2=>exact h.elim
 rename_i e b x hu aT
 replace hb:zZ M b rb:=hb
 replace hx:zZ M x rx:=hx
 split at h
 ·exact h.elim
 rename_i ty dC
 dsimp only at h
 cases mat with
 |true=>
  simp only[cond_true] at h
  split at h
  ·rename_i id jd
   split at h
   ·rename_i v1 xs v2 ys ah cI
    cases bn:Nat.beq id jd with
    |true=>rw[bn] at h;exact h.elim
    |false=>
     rw[bn] at h
     obtain⟨hr,rfl,rfl⟩:=fE h
     exact yZf ok hM hu dC aT ah cI (fun e=>by subst e;simp at bn) hb hx (DM hr)
   ·exact h.elim
  ·exact h.elim
 |false=>
  simp only[cond_false] at h
  split at h
  ·split at h
   ·rename_i ys u1 ht
    obtain⟨hr,rfl,rfl⟩:=fE h
    obtain⟨rfl,news,h1,h2⟩:=Y7 ok hx ht
    rw[show rb=.slice none 0 0 from hb]
    exact vLh ok hM hu dC aT h1 h2 (DM hr)
   ·exact h.elim
  ·rename_i id r
   split at h
   ·rename_i s xs ah
    split at h
    ·rename_i zs ys u1 hz ht
     obtain⟨e1,hz⟩:=iY hz
     subst e1
     subst hz
     obtain⟨rfl,news,h1,h2⟩:=Y7 ok hx ht
     split at h
     ·rename_i i
      rcases Zd h with⟨hc,h⟩|⟨_,h⟩
      ·split at h
       ·rename_i i' jd j m zs e1 e2 _
        cases e1
        have:=Nat.eq_of_beq_eq_true hc
        subst this
        obtain⟨_,hz⟩:=iY e2
        subst hz
        obtain⟨hr,rfl,rfl⟩:=fE h
        exact vBr ok hM hu dC aT ah hb hx (Nat.le_of_ble_eq_true hr)
       ·exact h.elim
      ·obtain⟨hr,rfl,rfl⟩:=fE h
       exact OG ok hM hu dC aT ah hb rfl h1 h2 (DM hr)
     ·rcases Zd h with⟨hc,h⟩|⟨_,h⟩
      ·exact h.elim
      ·obtain⟨hr,rfl,rfl⟩:=fE h
       exact OG ok hM hu dC aT ah hb trivial h1 h2 (DM hr)
     ·exact h.elim
    ·exact h.elim
   ·exact h.elim
  ·exact h.elim
theorem Zf {M:zC}(ok:Ok M){c:zL}{v:Value}{t:Ty}{ys:List t.den}(hv:zZ M c v)(h:iW M.h c=some ⟨t,ys⟩)(ht:t=.int .i64):
  ∃news,Rd M.H v ys.length t.size news∧∃F,∀i (hi:i<ys.length),qF M.H F t ys[i] (fun j=>news[i*t.size+j]?):=by
 unfold iW at h
 split at h
 ·rename_i sh s xs
  cases h
  obtain⟨news,h1,h2⟩:=Oz hv
  exact⟨news,h1,_,h2⟩
 ·rename_i id r
  split at h
  ·rename_i own s xs ah
   cases h
   obtain⟨C,hC,hO⟩:=ok.obj _ _ ah
   obtain⟨news,h1,h2⟩:=uh hC hO hv
   exact⟨news,h1,_,h2⟩
  ·cases r with
   |none=>cases h;cases ht
   |some p=>cases h
  ·cases h
 ·rename_i id i ver
  split at h
  ·rename_i v' xs ah
   cases cN:Nat.beq v' ver with
   |false=>rw[cN] at h;cases h
   |true=>
    rw[cN] at h
    cases h
    have e:v'=ver:=by simpa using cN
    subst e
    obtain⟨C,hC,hO⟩:=ok.obj _ _ ah
    obtain⟨C',aC,cQ,_,aP⟩:=hv
    rw[hC] at aC;cases aC
    obtain⟨rb,rl,ja,nW⟩:=aP hO.1
    by_cases hi:i<xs.length
    ·obtain⟨B,mI,v2,k1,k2,k3,k4,k5,k6⟩:=xS hO hi
     rw[ja] at k3
     cases k3
     rw[show xs.getD i []=xs[i] by simp[List.getD,hi]]
     cases rb with
     |none=>
      obtain⟨rfl,h0⟩:=nW
      have cf:xs[i]=[]:=List.eq_nil_of_length_eq_zero h0
      rw[cf]
      obtain⟨news,q1,q2⟩:=DK (H:=M.H) (F:=M.G) (t:=.int .i64) (A:=none) (c:=0)
      exact⟨news,q1,_,q2⟩
     |some R=>
      obtain⟨a,c,rfl,h1,h2,h3⟩:=nW
      by_cases h0:xs[i].length=0
      ·have cf:xs[i]=[]:=List.eq_nil_of_length_eq_zero h0
       rw[cf]
       obtain⟨news,q1,q2⟩:=DK (H:=M.H) (F:=M.G) (t:=.int .i64) (A:=some ⟨R,a,none⟩) (c:=c)
       exact⟨news,q1,_,q2⟩
      ·have ha:a=0:=by rcases h2 with h|h<;>omega
       subst ha
       obtain ⟨news, q1, q2⟩ := Oy (H := M.H) (F := fun _ => True) (t := .int .i64) (ys := xs[i]) (B := R) (o := 0) (c := c) h1 (fun j hj=>by
        simp only[qF,Ty.size,Nat.zero_add,Nat.mul_one,Nat.add_zero]
        exact k6 R rfl j hj)
       exact⟨news,q1,_,q2⟩
    ·have:C.rows[i]? =none:=List.getElem?_eq_none (by have:=hO.2.2.2.1;omega)
     rw[this] at ja;cases ja
  ·cases h
 ·cases h
theorem vR3 {M:zC}(ok:Ok M){c:zL}{v:Value}{t:Ty}{ys:List t.den}(hv:zZ M c v)(h:iW M.h c=some ⟨t,ys⟩):∃A k,v=.slice A ys.length k:=by
 by_cases ht:t=.int .i64
 ·obtain⟨news,⟨A,k,e,_⟩,_⟩:=Zf ok hv h ht
  exact⟨A,k,e⟩
 unfold iW at h
 split at h
 ·cases h
  obtain⟨news,⟨A,k,e,_⟩,_⟩:=Oz hv
  exact⟨A,k,e⟩
 ·rename_i id r
  split at h
  ·rename_i own s xs ah
   cases h
   obtain⟨C,hC,hO⟩:=ok.obj _ _ ah
   obtain⟨news,⟨A,k,e,_⟩,_⟩:=uh hC hO hv
   exact⟨A,k,e⟩
  ·rename_i ver xs ah
   cases r with
   |none=>
    cases h
    obtain⟨C,hC,hO⟩:=ok.obj _ _ ah
    obtain⟨C',aC,A,k,e,_⟩:=hv
    rw[hC] at aC;cases aC
    exact⟨A,k,by rw[e,hO.2.1]⟩
   |some p=>cases h
  ·cases h
 ·rename_i id i ver
  split at h
  ·cases cN:Nat.beq _ ver with
   |false=>rw[cN] at h;cases h
   |true=>rw[cN] at h;cases h;exact absurd rfl ht
  ·cases h
 ·cases h
theorem vKz {M:zC}(ok:Ok M){c:zL}{v:Value}{n:Nat}(hv:zZ M c v)(h:xw M.h c=some n):∃A k,v=.slice A n k:=by
 unfold xw at h
 split at h
 ·cases h;exact⟨none,0,hv⟩
 ·cases h
  obtain⟨C,B,_,_,e⟩:=hv
  exact⟨_,_,e⟩
 ·split at h
  ·rename_i t xs hr
   cases h
   exact vR3 ok hv hr
  ·cases h
theorem vF5 {P:Program}{w:World}{t e:TypeId}{A:Option Addr}{n k:Nat}{T:TypeId}{ts:Array TypeId}(h0:ts[0]? =some t)(hu:P.underlying t=some (.slice e)):
  (Builtin.len_ ts T #[.slice A n k]).run P w=.ok (.int .i64 n) w:=by
 have hr:(underlying t).run P w=.ok (.slice e) w:=by simp[underlying,hu]
 simp[Builtin.len_,h0,hr,goInt]
theorem Zg {P:Program}{M:zC}{w:World}(ok:Ok M)(hM:M.H=w.heap){lt:Bool}{l:List zI}{rl:Array Value}{v:zI}{u:qH}{ts:Array TypeId}{T:TypeId}(hl:zQ (qA M) l rl.toList)
  (h:yN (Hg lt l) v u):qQ P (bif lt then Builtin.min_ ts T rl else Builtin.max_ ts T rl) M w v u:=by
 unfold Hg at h
 split at h
 ·rename_i k x j y
  obtain⟨rfl,rfl⟩:=wF h
  obtain⟨rl⟩:=rl
  match rl,hl with
  |[a,b],⟨h1,h2,_⟩=>
   rw[show a=.int k x from h1,show b=.int j y from h2]
   refine .pure (rv:=.int k (bif lt then(bif decide (y<x) then y else x) else(bif decide (y>x) then y else x))) ok hM ?_ rfl
   cases lt<;>simp[Builtin.min_,Builtin.max_,Builtin.min2,Builtin.max2,Bool.cond_decide]
 ·rename_i k x j y i z
  obtain⟨rfl,rfl⟩:=wF h
  obtain⟨rl⟩:=rl
  match rl,hl with
  |[a,b,c],⟨h1,h2,h3,_⟩=>
   rw[show a=.int k x from h1,show b=.int j y from h2,show c=.int i z from h3]
   refine .pure (rv:=_) ok hM ?_ rfl
   cases lt<;>simp[Builtin.min_,Builtin.max_,Builtin.min2,Builtin.max2,Bool.cond_decide]
 ·exact h.elim
theorem Zh {M:zC}:∀{cs:List zL} {ns:List Int},tO cs=some ns→cs=ns.map (.int .i64)
 |[],ns,h=>by cases h;rfl
 |.int .i64 n::l,ns,h=>by
  unfold tO at h
  split at h
  ·rename_i r hr
   cases h
   rw[Zh (M:=M) hr];rfl
  ·cases h
theorem Zi (xs:List Int):∀(ns:List Int) (i:Nat),rA xs i (ns.map (.int .i64))=(((xs.drop i).take ns.length)++ns.drop ((xs.drop i).take ns.length).length).map (.int .i64)
 |[],i=>by simp[rA]
 |n::ns,i=>by
  simp only[List.map_cons,rA,Zi xs ns (i+1)]
  by_cases hi:i<xs.length
  ·have hb:Nat.blt i xs.length=true:=by simpa[Nat.blt_eq] using hi
   rw[hb,List.drop_eq_getElem_cons hi]
   simp only[cond_true,List.length_cons,List.take_succ_cons,List.drop_succ_cons,List.cons_append,List.map_cons]
   rw[show xs.getD i 0=xs[i] by simp[List.getD,hi]]
  ·have hb:Nat.blt i xs.length=false:=by
    cases h:Nat.blt i xs.length with
    |false=>rfl
    |true=>exact absurd (by simpa[Nat.blt_eq] using h) hi
   have e1:xs.drop i=[]:=List.drop_eq_nil_of_le (by omega)
   have e2:xs.drop (i+1)=[]:=List.drop_eq_nil_of_le (by omega)
   rw[hb,e1,e2]
   simp
theorem yX0 {P:Program}{M:zC}{w:World}(ok:Ok M)(hM:M.H=w.heap){t e:TypeId}{ts:Array TypeId}{T:TypeId}{d s v:zI}{u:qH}{rd rs:Value}(h0:ts[0]? =some t)(hu:P.underlying t=some (.slice e))(he:P.cellsOf e=1)
  (hd:qA M d rd) (hs:qA M s rs) (h:yN (xI M.h d s) v u):qQ P (Builtin.copy_ ts T #[rd,rs]) M w v u:=by
 unfold xI at h
 split at h
 case h_2=>exact h.elim
 rename_i id off n s
 split at h
 case h_2=>exact h.elim
 rename_i cells ys ah mP
 split at h
 case h_2=>exact h.elim
 rename_i vs eG
 split at h
 case h_2=>exact h.elim
 rename_i ns Ol
 obtain⟨_,rfl,rfl⟩:=fE h
 clear h
 obtain⟨C,B,hC,hB,rfl⟩:=hd
 obtain⟨C',aC,B',vals,ev,k1,k2,k3,k4,k5⟩:=ok.obj id _ ah
 rw[hC] at aC;cases aC
 rw[hB] at k1;cases k1
 obtain⟨c1,c2,c3⟩:=Dm eG
 obtain⟨i,hi⟩:=lZ (P:=P) (t:=e) (by omega)
 obtain⟨A,k,rfl,fF⟩:∃A k,rs=.slice A ys.length k∧∃news,Rd M.H (.slice A ys.length k) ys.length 1 news∧news=ys.map (.int .i64):=by
  split at mP
  ·cases mP
   exact⟨none,0,hs,[],⟨none,0,rfl,rfl,by simp,rfl⟩,rfl⟩
  ·obtain⟨news,hR,F,hE⟩:=Zf ok hs mP rfl
   obtain⟨A,k,e,hl,r⟩:=hR
   refine⟨A,k,e,news,⟨A,k,rfl,hl,r⟩,?_⟩
   refine List.ext_getElem (by simpa[Ty.size] using hl) fun j h1 h2=>?_
   have:=hE j (by simpa using h2)
   simp only[qF,Ty.size,Nat.mul_one,Nat.add_zero] at this
   rw[List.getElem?_eq_getElem h1,Option.some.injEq] at this
   rw[this];simp
 obtain⟨news,⟨A',k',e',hl,cQ,fF⟩,DT⟩:=fF
 cases e'
 let m:=min ys.length n
 have hm:Nat.min ys.length n=m:=rfl
 have uk:(Builtin.firstCells 1 m (.slice A ys.length k)).run P w=.ok (news.take m).toArray w:=by
  have:Rd M.H (.slice A m k) m 1 (news.take m):=by
   refine⟨A,k,rfl,?_,fun u hu=>cQ u (List.mem_of_mem_take hu),?_⟩
   ·rw[List.length_take,hl];omega
   ·cases A with
    |none=>have:ys.length=0:=fF;omega
    |some a=>
     rcases fF with h|⟨h1,h2⟩
     ·left;omega
     ·refine .inr ⟨h1,fun j u hu=>h2 j u ?_⟩
      rw[List.getElem?_take] at hu
      split at hu
      ·exact hu
      ·cases hu
  have:=this.first (P:=P) w hM.symm
  cases A<;>exact this
 have Zj:w.heap[B]? =some (.cells vals ev (0,0)):=by rw[←hM];exact k3
 have bP:=k4.length
 have DQ:(news.take m).length=m:=by rw[List.length_take,hl];omega
 have aG:off+(news.take m).length≤vals.size:=by
  rw[DQ];simp at bP;omega
 have fH:=run_storeCells_at (P:=P) B off ev (news.take m) 0 vals w Zj (by simpa using aG) (fun v hv=>tR (cQ v (List.mem_of_mem_take hv)))
 simp only[Nat.add_zero] at fH
 have ly:(Builtin.copy_ ts T #[.slice (some ⟨B,off,none⟩) n n,.slice A ys.length k]).run P w=.ok (.int .i64 (m:Nat)) (w.setRow B (yO vals off (news.take m))):=by
  simp[Builtin.copy_,h0,run_underlying hu,Builtin.lenOf,gw w hi,he,hm,uk,goInt]
  have e:(storeCells ⟨B,off,none⟩ (news.take m)).run P w=.ok () (w.setRow B (yO vals off (news.take m))):=fH
  rw[e];rfl
 obtain⟨f1,f2,f3,f4⟩:=ma Zj (new:=yO vals off (news.take m)) (fG aG)
 have hH:∀b,b∉C.fp→(w.setRow B (yO vals off (news.take m))).heap[b]? =M.H[b]? :=fun b mH=>by
  rw[hM];exact f3 b fun e=>mH (e▸jV hB)
 have cH:∀b,b<M.H.size→qZ (w.setRow B (yO vals off (news.take m))).heap b=qZ M.H b:=fun b _=>by rw[hM];exact f4 b
 let o':Obj:=.box true (cells.take off++rA ys 0 vs++cells.drop (off+n))
 have x:=zC.write_ext ok ah rfl hC C.le_refl hH cH o'
 have aF:cells.take off++rA ys 0 vs++cells.drop (off+n)=cells.take off++(ys.take m).map (.int .i64)++cells.drop (off+((ys.take m).map (zL.int .i64)).length):=by
  have hv:=Zh (M:=M) Ol
  have hnn:ns.length=n:=by rw[←c3,hv];simp
  have DU:(ys.drop 0).take ns.length=ys.take m:=by
   rw[List.drop_zero,hnn]
   by_cases h:ys.length≤n
   ·rw[List.take_of_length_le h,List.take_of_length_le (by omega)]
   ·rw[show m=n by omega]
  rw[hv,Zi,DU,List.map_append,List.map_drop,←hv,List.append_assoc,List.append_assoc,List.append_assoc]
  congr 2
  have HY:(ys.take m).length=m:=by rw[List.length_take];omega
  have e1:cells.drop (off+n)=(cells.drop (off+m)).drop (n-m):=by
   rw[List.drop_drop];congr 1;omega
  rw[List.length_map,HY,c2,List.drop_take,List.drop_drop,e1,List.take_append_drop]
 have := zC.write_ok ok ah rfl hC C.le_refl (fun _ h => h) (by rw [hM]; exact f1) hH cH (o' := o') (by
  refine⟨B,_,ev,hB,k2,f2,?_,fun h=>(by cases h)⟩
  rw[aF]
  refine NZ x k4 (us:=news.take m) ?_ (by simpa using aG)
  rw[DT]
  refine zQ.of_get (by simp) fun j h1 h2=>?_
  simp[zZ])
 exact⟨_,_,_,ly,rfl,rfl,rfl,rfl,rfl,this.1,this.2,rfl⟩
theorem Zk {P:Program}{t:TypeId}(h:Dc P t=true):∃k e i,P.underlying t=some (.map k e)∧P.underlying k=some (.int .i64)∧P.info? e=some i∧i.zero=some (.bool false):=by
 unfold Dc at h
 split at h
 ·rename_i k e hu
  split at h
  ·rename_i hk hz
   obtain⟨i,h1,h2⟩:=Option.bind_eq_some_iff.1 hz
   exact⟨k,e,i,hu,hk,h1,h2⟩
  ·cases h
 ·cases h
theorem vE4 {P:Program}{M:zC}{w:World}(ok:Ok M)(hM:M.H=w.heap){nm:Nat}{t:TypeId}{v:zI}{u:qH}(h:yN (xD P nm M.h t) v u):qQ P (Instr.makeMap t none) M w v u:=by
 unfold xD at h
 split at h
 case h_2=>exact h.elim
 rename_i aT
 obtain⟨_,h⟩:=rV h
 obtain⟨_,rfl,rfl⟩:=fE h
 let C:zT:=⟨some M.H.size,0,0,0,[]⟩
 have := zC.new_ok ok aT (.imap []) C (.map #[] 0) (by simp [C, zT.fp]) (by
  refine⟨M.H.size,#[],0,rfl,rfl,tQ,fun e he=>(by simp at he),fun n=>rfl⟩)
 refine⟨.map (some w.heap.size),w.alloc (.map #[] 0),_,?_,rfl,rfl,rfl,?_,rfl,this.1,this.2,C,M.H.size,κset_same _ _ _,rfl,by rw[hM]⟩
 ·simp only[Instr.makeMap,Sem.run_bind,Sem.run_pure];rfl
 ·show M.H.push _=w.heap.push _
  rw[hM]
theorem OO {n:Int}:∀{es:List MapEntry} {i:Nat},(∀e∈es,∃m b,e.key=.int .i64 m∧e.val=.bool b)→
  (jQ n es=none∧Instr.findNow (.int .i64) (.int .i64 n) es i=some none)∨
  (∃j b e,jQ n es=some (.bool b)∧Instr.findNow (.int .i64) (.int .i64 n) es i=some (some (i+j,.bool b))∧es[j]? =some e∧e.key=.int .i64 n∧
   ∀f:MapEntry→MapEntry,(∀e,(f e).key=.int .i64 n)→jQ n (es.modify j f)=some (f e).val∧(∀m,m≠n→jQ m (es.modify j f)=jQ m es)∧∀e'∈es.modify j f,e'∈es∨e'=f e)
 |[],i,_=>.inl ⟨rfl,rfl⟩
 |e::es,i,h=>by
  obtain⟨m,b,h1,h2⟩:=h e (List.mem_cons_self ..)
  by_cases hm:n=m
  ·subst hm
   refine .inr ⟨0,b,e,?_,?_,rfl,h1,fun f hf=>⟨?_,fun m bn=>?_,fun e' he=>?_⟩⟩
   ·simp[jQ,h1,h2]
   ·simp[Instr.findNow,Instr.sameNow,h1,h2]
   ·simp[jQ,hf]
   ·simp[jQ,hf,h1,bn]
   ·simp only[List.modify_zero_cons,List.mem_cons] at he⊢
    rcases he with h|h
    ·exact .inr h
    ·exact .inl (.inr h)
  ·have hs:Instr.findNow (.int .i64) (.int .i64 n) (e::es) i=Instr.findNow (.int .i64) (.int .i64 n) es (i+1):=by
    have hb:(n==m)=false:=by simp[hm]
    simp[Instr.findNow,Instr.sameNow,h1,hb]
   have hf:jQ n (e::es)=jQ n es:=by simp[jQ,h1,hm]
   rcases OO (es:=es) (i:=i+1) (fun e he=>h e (List.mem_cons_of_mem _ he)) with⟨k1,k2⟩|⟨j,b',e',k1,k2,k3,k4,k5⟩
   ·exact .inl ⟨hf.trans k1,hs.trans k2⟩
   ·refine .inr ⟨j+1,b',e',hf.trans k1,by rw[hs,k2];congr 3;omega,by simpa using k3,k4,fun f hfk=>?_⟩
    obtain⟨q1,q2,q3⟩:=k5 f hfk
    refine⟨by rw[List.modify_succ_cons];simp[jQ,h1,hm,q1],fun m' bn=>?_,fun e'' he=>?_⟩
    ·rw[List.modify_succ_cons]
     simp only[jQ,h1,q2 m' bn]
    ·rw[List.modify_succ_cons,List.mem_cons] at he
     rcases he with he|he
     ·exact .inl (by rw[he];exact List.mem_cons_self ..)
     ·exact(q3 e'' he).imp (List.mem_cons_of_mem _) fun h=>h
theorem HZ {P:Program}{w:World}{r:Nat}{es:Array MapEntry}{ck:Nat}(h:w.heap[r]? =some (.map es ck)):(getObj r).run P w=.ok (.map es ck) w:=by
 simp[getObj,Sem.run,h]
theorem Zl {P:Program}{w:World}{r:Nat}{es:Array MapEntry}{ck:Nat}(o:Go.Obj)(h:w.heap[r]? =some (.map es ck)):(setObj r o).run P w=.ok () {w with heap:=w.heap.setIfInBounds r o}:=by
 simp[setObj,Sem.run,h]
theorem H0 {P:Program}{w:World}{k:TypeId}{b:Bool}{n:Int}(h:P.underlying k=some (.int .i64)):(Instr.checkKey b 10000 k (.int .i64 n)).run P w=.ok () w:=by
 unfold Instr.checkKey
 simp[run_underlying h]
theorem H2 {P:Program}{w:World}{k:TypeId}{n:Int}{es:List MapEntry}{r:Option (Nat×Value)}(h:P.underlying k=some (.int .i64))(hf:Instr.findNow (.int .i64) (.int .i64 n) es 0=some r):(Instr.findKey k (.int .i64 n) es).run P w=.ok r w:=by
 unfold Instr.findKey
 simp[run_underlying h,hf]
theorem vSm {P:Program}{M:zC}{w:World}(ok:Ok M)(hM:M.H=w.heap){t:TypeId}{x i v:zI}{u:qH}{rx ri:Value}(hx:qA M x rx)(hi:qA M i ri)(h:yN (xE P M.h t x i) v u):qQ P (Instr.lookup t rx ri false) M w v u:=by
 unfold xE at h
 split at h
 case h_2=>exact h.elim
 rename_i id n
 split at h
 case h_2=>exact h.elim
 rename_i cZ ah
 obtain⟨hb,h⟩:=rV h
 obtain⟨rfl,rfl⟩:=wF h
 obtain⟨k,e,inf,h1,h2,h3,h4⟩:=Zk hb
 obtain⟨C,B,hC,hB,rfl⟩:=hx
 obtain⟨C',aC,B',es,ck,k1,k2,k3,k4,k5⟩:=ok.obj id _ ah
 rw[hC] at aC;cases aC
 rw[hB] at k1;cases k1
 have lu:ri=.int .i64 n:=hi
 subst lu
 rw[hM] at k3
 refine .pure (rv:=.bool ((cZ.lookup n).getD false)) ok hM ?_ rfl
 have h5:=k5 n
 unfold Instr.lookup
 rcases OO (n:=n) (i:=0) k4 with⟨q1,q2⟩|⟨j,b,e',q1,q2,q3,q4,q5⟩
 ·rw[q1] at h5
  have:cZ.lookup n=none:=by cases hl:cZ.lookup n with|none=>rfl|some b=>rw[hl] at h5;cases h5
  simp[run_underlying h1,HZ k3,H0 h2,H2 h2 q2,zeroValue,typeInfo,h3,h4,this]
 ·rw[q1] at h5
  have:cZ.lookup n=some b:=by cases hl:cZ.lookup n with|none=>rw[hl] at h5;cases h5|some b=>rw[hl] at h5;cases h5;rfl
  simp[run_underlying h1,HZ k3,H0 h2,H2 h2 q2,this]
theorem OP {n:Int}{b:Bool}{c:Nat}:∀{es:List MapEntry},jQ n es=none→∀m,jQ m (es++[⟨.int .i64 n,.bool b,c⟩])=if m=n then some (.bool b) else jQ m es
 |[],_,m=>by simp[jQ]
 |e::es,h,m=>by
  rw[List.cons_append]
  have aH:∀(m:Int) (l:List MapEntry),jQ m (e::l)=match e.key with|.int .i64 k=>if m=k then some e.val else jQ m l|_=>jQ m l:=fun m l=>rfl
  rw[aH] at h
  rw[aH,aH]
  split at h
  ·rename_i k hk
   split at h
   ·cases h
   ·rename_i bn
    by_cases hm:m=k
    ·subst hm
     rw[if_pos rfl,if_neg (fun e=>bn e.symm),if_pos rfl]
    ·rw[if_neg hm,OP h m,if_neg hm]
  ·exact OP h m
theorem vOq {P:Program}{M:zC}{w:World}(ok:Ok M)(hM:M.H=w.heap){t:TypeId}{x i y v:zI}{u:qH}{rx ri ry:Value}(hx:qA M x rx)(hi:qA M i ri)(hy:qA M y ry)(h:yN (xF P M.h t x i y) v u):
  v=.undef∧kC P (Instr.mapUpdate t rx ri ry) M w u:=by
 unfold xF at h
 split at h
 case h_2=>exact h.elim
 rename_i id n b
 split at h
 case h_2=>exact h.elim
 rename_i cZ ah
 obtain⟨hb,h⟩:=rV h
 obtain⟨_,rfl,rfl⟩:=fE h
 obtain⟨k,e,inf,h1,h2,h3,h4⟩:=Zk hb
 obtain⟨C,B,hC,hB,rfl⟩:=hx
 obtain⟨C',aC,B',es,ck,k1,k2,k3,k4,k5⟩:=ok.obj id _ ah
 rw[hC] at aC;cases aC
 rw[hB] at k1;cases k1
 have lu:ri=.int .i64 n:=hi
 subst lu
 have hry:ry=.bool b:=hy
 subst hry
 have k3':=k3
 rw[hM] at k3
 have aU:B<w.heap.size:=(Array.getElem?_eq_some_iff.1 k3).1
 have write:∀(nX:Array MapEntry) (rW:Nat),(Instr.mapUpdate t (.map (some B)) (.int .i64 n) (.bool b)).run P w=.ok () {w with heap:=w.heap.setIfInBounds B (.map nX rW)}→
   (∀e∈nX.toList,∃m b,e.key=.int .i64 m∧e.val=.bool b)→(∀m,jQ m nX.toList=if m=n then some (.bool b) else jQ m es.toList)→kC P (Instr.mapUpdate t (.map (some B)) (.int .i64 n) (.bool b)) M w [(id,.imap ((n,b)::cZ))]:=by
  intro nX rW hr he hf
  have po:∀c,(w.heap.setIfInBounds B (.map nX rW))[c]? =if c=B then some (.map nX rW) else w.heap[c]? :=fun c=>by
   rw[Array.getElem?_setIfInBounds]
   by_cases hc:B=c
   ·subst hc;simp[aU]
   ·rw[if_neg hc,if_neg (fun e=>hc e.symm)]
  have hH:∀c,c∉C.fp→(w.heap.setIfInBounds B (.map nX rW))[c]? =M.H[c]? :=fun c hc=>by
   rw[po,if_neg (fun(e:c=B)=>hc (by rw[e];exact jV hB)),hM]
  have cH:∀c,c<M.H.size→qZ (w.heap.setIfInBounds B (.map nX rW)) c=qZ M.H c:=fun c _=>by
   unfold qZ
   rw[po,hM]
   by_cases hc:c=B
   ·subst hc;rw[if_pos rfl,k3]
   ·rw[if_neg hc]
  have := zC.write_ok ok ah rfl hC C.le_refl (fun _ h => h) (by rw [hM]; simp) hH cH (o' := .imap ((n, b) :: cZ)) (by
   refine⟨B,nX,rW,hB,k2,?_,he,fun m=>?_⟩
   ·show(w.heap.setIfInBounds B (.map nX rW))[B]? =_
    rw[po,if_pos rfl]
   ·rw[hf m,List.lookup_cons]
    by_cases hm:m=n
    ·subst hm;simp
    ·have:(m==n)=false:=by simp[hm]
     rw[if_neg hm,this,k5 m])
  exact⟨_,_,hr,rfl,rfl,rfl,rfl,rfl,this.1,this.2⟩
 refine⟨rfl,?_⟩
 rcases OO (n:=n) (i:=0) k4 with⟨q1,q2⟩|⟨j,b',e',q1,q2,q3,q4,q5⟩
 ·refine write (es.push ⟨.int .i64 n,.bool b,ck⟩) (ck+1) ?_ (fun e he=>?_) fun m=>?_
  ·unfold Instr.mapUpdate
   simp[run_underlying h1,HZ k3,H0 h2,H2 h2 q2,Zl _ k3]
  ·rw[Array.toList_push,List.mem_append,List.mem_singleton] at he
   rcases he with he|he
   ·exact k4 e he
   ·exact⟨n,b,by rw[he],by rw[he]⟩
  ·rw[Array.toList_push]
   exact OP q1 m
 ·obtain⟨r1,r2,r3⟩:=q5 (fun e=>{e with key:=.int .i64 n,val:=.bool b}) fun _=>rfl
  refine write (es.modify j fun e=>{e with key:=.int .i64 n,val:=.bool b}) ck ?_ (fun e he=>?_) fun m=>?_
  ·have aal:((es[j]?).map (·.key)).getD (.int .i64 n)=.int .i64 n:=by
    have:es[j]? =some e':=by simpa using q3
    rw[this];exact q4
   unfold Instr.mapUpdate
   rw[Nat.zero_add] at q2
   simp only[Array.getElem?_toList] at q3
   simp[run_underlying h1,HZ k3,H0 h2,H2 h2 q2,Zl _ k3,q3,q4,Instr.keyThatStays,Instr.sameBits]
  ·rw[Array.toList_modify] at he
   rcases r3 e he with he|he
   ·exact k4 e he
   ·exact⟨n,b,by rw[he],by rw[he]⟩
  ·rw[Array.toList_modify]
   by_cases hm:m=n
   ·subst hm;rw[if_pos rfl];exact r1
   ·rw[if_neg hm];exact r2 m hm
structure rY (M:zC) (w:World) (u:qH) (M':zC) (w':World):Prop where
 os:w'.os=w.os
 tape:w'.tape=w.tape
 output:w'.output=w.output
 H:M'.H=w'.heap
 h:M'.h=qP M.h u
 ok:Ok M'
 step:yY M M'
def um (P:Program)(f:Nat)(args:List zI)(h:Hp)(v:zI)(u:qH):Prop:=
 ∀(M:zC) (w:World) (vs:Array Value),M.h=h→M.H=w.heap→Ok M→zQ (qA M) args vs.toList→
  ((callFunc f vs).run P w=.ok (.enter f vs) w∧Calls P f vs w fun
   |.returned rv,w'=>∃M',rY M w u M' w'∧qA M' v rv
   |_,_=>False)∨∃rv w' M',(callFunc f vs).run P w=.ok (.value rv) w'∧rY M w u M' w'∧qA M' v rv
def Zm (P:Program)(S:Hh):Prop:=∀k nm f args h v u,yN (S k nm f args h) v u→um P f args h v u
structure ga (E:qB):Prop where
 eq:Dx E.P E.eqT
 sums:Zm E.P E.sums
section
variable {P:Program} {Q:Exit→Act→World→Prop} {o:Oper} {a:Act} {w:World} {M:zC} {next:Act→World→Prop} {v:zI} {u:qH}
theorem fI {s:Sem Value}(hr:qQ P s M w v u)(he:execOp a.eval o=(do pure (.value (←s)):Sem Next))(hn:∀M' w' rv,rY M w u M' w'→qA M' v rv→next (a.put o.dst rv) w'):
  o.wp P a w next Q:=by
 obtain⟨rv,w',M',h1,h2,h3,h4,h5,h6,h7,h8,h9⟩:=hr
 unfold Oper.wp
 rw[he]
 simp only[Sem.run_bind,h1,Result.andThen_ok,Sem.run_pure]
 exact hn M' w' rv ⟨h2,h3,h4,h5,h6,h7,h8⟩ h9
theorem Zn {s:Sem Unit}(hr:kC P s M w u)(he:execOp a.eval o=(do s;pure .skip:Sem Next))(hn:∀M' w' rv,rY M w u M' w'→qA M' .undef rv→next (a.put o.dst rv) w'):
  o.wp P a w next Q:=by
 obtain⟨w',M',h1,h2,h3,h4,h5,h6,h7,h8⟩:=hr
 unfold Oper.wp
 rw[he]
 simp only[Sem.run_bind,h1,Result.andThen_ok,Sem.run_pure]
 exact hn M' w' undef ⟨h2,h3,h4,h5,h6,h7,h8⟩ trivial
theorem pq (ok:Ok M)(hM:M.H=w.heap){rv:Value}(hu:u=[])(hv:qA M v rv)(he:(execOp a.eval o).run P w=.ok (.value rv) w)(hn:∀M' w' rv,rY M w u M' w'→qA M' v rv→next (a.put o.dst rv) w'):
  o.wp P a w next Q:=by
 unfold Oper.wp
 rw[he]
 subst hu
 exact hn M w rv ⟨rfl,rfl,rfl,hM,rfl,ok,.refl M⟩ hv
end
theorem DV {α β:Type}(f:α→Option β):∀(l:List α) (r:List β),l.mapM f=some r→zQ (fun a b=>f a=some b) l r
 |[],r,h=>by simp at h;subst h;trivial
 |a::l,r,h=>by
  simp only[List.mapM_cons,Option.bind_eq_bind,Option.bind_eq_some_iff] at h
  obtain⟨b,h1,bs,h2,h3⟩:=h
  cases h3
  exact⟨h1,DV f l bs h2⟩
theorem zQ.map_left {α β γ:Type}{R:γ→β→Prop}{f:α→γ}:∀{l:List α} {m:List β},zQ (fun a b=>R (f a) b) l m→zQ R (l.map f) m
 |[],[],_=>trivial
 |_::_,_::_,h=>⟨h.1,zQ.map_left h.2⟩
 |[],_::_,h=>h.elim
 |_::_,[],h=>h.elim
def _root_.Go.Operand.lit:Operand→Value
 |.const c=>c
 |_=>undef
theorem yZp {P:Program}{M:zC}{w:World}{t:TypeId}{d:TypeDesc}{y:Operand}{x:zL}{rx ry:Value}{b:Bool}(hu:P.underlying t=some d)(hx:zZ M x rx)(hy:ry=y.lit)
  (h:Nt d y x=some b) (op:BinOp) (uo:op=.eql∨op=.neq) (ox oy:Operand):
  (eqGuard op t ox oy rx ry).run P w=.ok () w∧(binOp op t rx ry).run P w=.ok (.bool (C9 op b)) w:=by
 have key:∀n,(Op.equalIn (n+1) t rx ry).run P w=.ok b w→(eqGuard op t ox oy rx ry).run P w=.ok () w→(binOp op t rx ry=match op with|.eql=>(do pure (.bool (←Op.equal t rx ry)))|_=>(do pure (.bool (!(←Op.equal t rx ry)))))→
   n=9999→(eqGuard op t ox oy rx ry).run P w=.ok () w∧(binOp op t rx ry).run P w=.ok (.bool (C9 op b)) w:=by
  intro n h1 h2 h3 hn
  have cP:(Op.equal t rx ry).run P w=.ok b w:=by subst hn;exact h1
  refine⟨h2,?_⟩
  rw[h3]
  rcases uo with rfl|rfl<;>simp[cP,C9]
 unfold Nt at h
 split at h<;>cases h<;>simp only[Operand.lit] at hy<;>subst hy
 all_goals (try obtain rfl:rx=_:=hx)
 all_goals (try obtain⟨C,B,_,_,rfl⟩:=hx)
 all_goals (try obtain⟨C,B,_,_,_,rfl⟩:=hx)
 all_goals (try obtain⟨B,o,rfl,_⟩:=hx)
 all_goals (try obtain⟨cv,rfl,_⟩:=hx)
 all_goals (try obtain⟨⟨_,_,_,rfl⟩,_⟩:=hx)
 all_goals
  refine key 9999 ?_ ?_ ?_ rfl
  ·generalize 9999=n
   unfold Op.equalIn
   simp[run_underlying hu]
  ·rcases uo with rfl|rfl<;>simp[eqGuard]
  ·rcases uo with rfl|rfl<;>rfl
theorem OQ {M:zC}{ev:Operand→zI}{ρ:Operand→Value}(ba:∀x,qA M (ev x) (ρ x)):∀(l:List (Nat×Operand)),zQ (uf M) (l.map fun p=>(p.1,ev p.2)) (l.map fun p=>(p.1,ρ p.2))
 |[]=>trivial
 |p::l=>⟨⟨rfl,ba p.2⟩,OQ ba l⟩
theorem Zo {f:Operand→Value}(parts:Array (Nat×Operand)):(parts.map fun(i,x)=>(i,f x))=(parts.toList.map fun p=>(p.1,f p.2)).toArray:=by
 cases parts;simp
theorem Zp {M:zC}{ev:Operand→zI}{ρ:Operand→Value}(ba:∀x,qA M (ev x) (ρ x)):∀{l:List Operand} {ids:List Nat},zQ (fun x id=>rC (ev x)=some id) l ids→
  zQ (fun id u=>∃C B,M.κ id=some C∧C.blk=some B∧u=.pointer (some ⟨B,0,none⟩)) ids (l.map ρ)
 |[],[],_=>trivial
 |x::l,id::ids,h=>by
  refine⟨?_,Zp ba h.2⟩
  have h1:rC (ev x)=some id:=h.1
  have hx:=ba x
  unfold rC at h1
  split at h1
  ·rename_i uq hc
   cases h1
   rw[hc] at hx
   exact hx
  ·cases h1
 |[],_::_,h=>h.elim
 |_::_,[],h=>h.elim
theorem Zq {M:zC}{ev:Operand→zI}{ρ:Operand→Value}(ba:∀x,qA M (ev x) (ρ x)):∀(l:List Operand),zQ (qA M) (l.map ev) (l.map ρ)
 |[]=>trivial
 |x::l=>⟨ba x,Zq ba l⟩
theorem vFk {E:qB}(hE:ga E){A:zY}{k pre:Nat}{Q:Exit→Act→World→Prop}{o:Oper}{a:Act}{w:World}{M:zC}{next:Act→World→Prop}{v:zI}{u:qH}{ev:Operand→zI}(ok:Ok M)(hM:M.H=w.heap)
  (ba:∀x,qA M (ev x) (a.eval x)) (h:yN (iX E A k pre o ev M.h) v u) (hn:∀M' w' rv,rY M w u M' w'→qA M' v rv→next (a.put o.dst rv) w'):o.wp E.P a w next Q:=by
 unfold iX at h
 dsimp only at h
 split at h
 ·rename_i x ho
  obtain⟨rfl,rfl⟩:=wF h
  exact pq ok hM rfl (ba x) (by cases o;cases ho;rfl) hn
 ·rename_i x ho
  obtain⟨rfl,rfl⟩:=wF h
  exact pq ok hM rfl (ba x) (by cases o;cases ho;rfl) hn
 ·rename_i c x y ho
  split at h
  ·rename_i cb hc
   have jx:=ba c
   rw[hc] at jx
   have jx:a.eval c=.bool cb:=jx
   split at h
   ·rename_i xb yb hx hy
    obtain⟨rfl,rfl⟩:=wF h
    have h1:=ba x
    have h2:=ba y
    rw[hx] at h1
    rw[hy] at h2
    refine pq (rv:=.bool (bif cb then xb else yb)) ok hM rfl (show qA M (.c (.bool _)) (.bool _) from rfl) ?_ hn
    have h1:a.eval x=.bool xb:=h1
    have h2:a.eval y=.bool yb:=h2
    cases o
    cases ho
    show(do pure (.value (if←asBool (a.eval c) then a.eval x else a.eval y)):Sem Next).run E.P w=_
    cases cb<;>simp[jx,asBool,h1,h2]
   ·refine pq (rv:=if cb then a.eval x else a.eval y) ok hM ?_ ?_ ?_ hn
    ·rcases h with⟨_,_,rfl⟩|⟨_,⟨_,_,rfl⟩|⟨_,h⟩⟩
     ·rfl
     ·rfl
     ·exact h.elim
    ·rcases h with⟨rfl,rfl,_⟩|⟨rfl,⟨_,rfl,_⟩|⟨_,h⟩⟩
     ·exact ba x
     ·exact ba y
     ·exact h.elim
    ·cases o
     cases ho
     show(do pure (.value (if←asBool (a.eval c) then a.eval x else a.eval y)):Sem Next).run E.P w=_
     cases cb<;>simp[jx,asBool]
  ·exact h.elim
 ·rename_i t ho
  split at h
  ·rename_i zs aT hz
   obtain⟨_,rfl,rfl⟩:=fE h
   exact fI (vBm ok hM aT hz) (by cases o;cases ho;rfl) hn
  ·exact h.elim
 ·rename_i t x ho
  split at h
  ·rename_i vs aT hv
   obtain⟨_,rfl,rfl⟩:=fE h
   exact fI (vJz ok hM aT (ba x) hv) (by cases o;cases ho;rfl) hn
  ·exact h.elim
 ·rename_i t parts ho
  have hp:=OQ ba parts.toList
  have:=vQ1 ok hM hp h
  exact fI this (by cases o;cases ho;rw[←Zo];rfl) hn
 ·rename_i t n parts ho
  have hp:=OQ ba parts.toList
  exact fI (vLj ok hM hp h) (by cases o;cases ho;rw[←Zo];rfl) hn
 ·rename_i t x ho
  exact fI (vEw ok hM (ba x) h) (by cases o;cases ho;rfl) hn
 ·rename_i t x y ho
  obtain⟨rfl,hr⟩:=vK3 ok hM (ba x) (ba y) h
  exact Zn hr (by cases o;cases ho;rfl) hn
 ·rename_i x ho
  have hx:=ba x
  have key:∀c,ev x=.c c→v=.c c→u=[]→(match a.eval x with|.pointer none|.nilIface|.nilFunc=>False|.func (.method _) _ _=>False|_=>True)→o.wp E.P a w next Q:=by
   intro c hc hv hu hm
   rw[hc] at hx
   refine pq (rv:=a.eval x) ok hM hu (by rw[hv];exact hx) ?_ hn
   cases o
   cases ho
   simp only[execOp]
   generalize a.eval x=r at*
   split<;>first|rfl|exact hm.elim
  split at h
  ·rename_i i j hc
   obtain⟨rfl,rfl⟩:=wF h
   refine key _ hc rfl rfl ?_
   rw[hc] at hx
   obtain⟨C,B,_,_,e⟩:=hx
   rw[e];trivial
  ·rename_i i j k hc
   obtain⟨rfl,rfl⟩:=wF h
   refine key _ hc rfl rfl ?_
   rw[hc] at hx
   obtain⟨C,B,_,_,_,e⟩:=hx
   rw[e];trivial
  ·rename_i i j k l hc
   obtain⟨rfl,rfl⟩:=wF h
   refine key _ hc rfl rfl ?_
   rw[hc] at hx
   obtain⟨B,o,e,_⟩:=hx
   rw[e];trivial
  ·rename_i i j hc
   obtain⟨rfl,rfl⟩:=wF h
   refine key _ hc rfl rfl ?_
   rw[hc] at hx
   obtain⟨cv,e,_⟩:=hx
   rw[e];trivial
  ·exact h.elim
 ·rename_i op t x y _ ho
  cases hc:(Yg y&&Yf op) with
  |false=>
   rw[hc] at h
   exact fI (vM1 hE.eq ok hM (ba x) (ba y) h) (by cases o;cases ho;rfl) hn
  |true=>
   rw[hc] at h
   rw[Bool.and_eq_true] at hc
   have uo:op=.eql∨op=.neq:=by cases op<;>first|(left;rfl)|(right;rfl)|(cases hc.2)
   split at h
   ·rename_i d cv hu jx
    split at h
    ·rename_i b hb
     obtain⟨rfl,rfl⟩:=wF h
     have hx:=ba x
     rw[jx] at hx
     have hy:a.eval y=y.lit:=by
      cases y<;>first|rfl|(cases hc.1)
     obtain⟨h1,h2⟩:=yZp (w:=w) hu hx hy hb op uo x y
     refine pq (rv:=.bool (C9 op b)) ok hM rfl (show qA M (.c (.bool _)) (.bool _) from rfl) ?_ hn
     cases o
     cases ho
     show(do pure (.value (←(do eqGuard op t x y (a.eval x) (a.eval y);binOp op t (a.eval x) (a.eval y)))):Sem Next).run E.P w=_
     simp only[Sem.run_bind,h1,Result.andThen_ok,h2,Sem.run_pure]
    ·exact h.elim
   ·exact h.elim
 ·rename_i op t x ho
  exact fI (vD3 ok hM (ba x) h) (by cases o;cases ho;rfl) hn
 ·rename_i s d x ho
  split at h
  ·rename_i k1 k k2 n hs hd hx
   obtain⟨rfl,rfl⟩:=wF h
   have mg:=ba x
   rw[hx] at mg
   have mg:a.eval x=.int k2 n:=mg
   refine pq (rv:=.int k (k.wrap n)) ok hM rfl (show qA M (.c (.int _ _)) (.int _ _) from rfl) ?_ hn
   cases o
   cases ho
   show(do pure (.value (←convert s d (a.eval x))):Sem Next).run E.P w=_
   simp[convert,run_underlying hs,run_underlying hd,mg,Conv.intToInt]
  ·exact h.elim
 ·rename_i f first captured ho
  cases hf:Nat.beq first.size 0 with
  |false=>rw[hf] at h;exact h.elim
  |true=>
   rw[hf] at h
   simp only[cond_true] at h
   split at h
   ·rename_i ids lz
    obtain⟨rfl,rfl⟩:=wF h
    have h0:first=#[]:=Array.eq_empty_of_size_eq_zero (by simpa using hf)
    refine pq (rv:=.func (.func f) #[] (captured.map a.eval)) ok hM rfl ?_ ?_ hn
    case refine_2=>
     cases o
     cases ho
     show(do pure (.value (←Instr.makeFunc (.func f) (first.map a.eval) (captured.map a.eval))):Sem Next).run E.P w=_
     subst h0
     simp[Instr.makeFunc]
    refine⟨_,rfl,?_⟩
    rw[Array.toList_map]
    exact Zp ba (DV _ _ _ lz)
   ·exact h.elim
 ·rename_i t l c ho
  exact fI (vGt ok hM (ba l) (ba c) h) (by cases o;cases ho;rfl) hn
 ·rename_i t ho
  exact fI (vE4 ok hM h) (by cases o;cases ho;rfl) hn
 ·rename_i t x i ho
  exact fI (vSm ok hM (ba x) (ba i) h) (by cases o;cases ho;rfl) hn
 ·rename_i t x i y ho
  obtain⟨rfl,hr⟩:=vOq ok hM (ba x) (ba i) (ba y) h
  exact Zn hr (by cases o;cases ho;rfl) hn
 ·rename_i t x lo hi mx ho
  have hO:∀y:Option Operand,xX M (y.map ev) (y.map a.eval):=fun y=>by
   cases y with
   |none=>trivial
   |some y=>exact ba y
  exact fI (vAl ok hM (ba x) (hO lo) (hO hi) (hO mx) h) (by cases o;cases ho;rfl) hn
 ·rename_i t x f ho
  exact fI (vNy ok hM (ba x) h) (by cases o;cases ho;rfl) hn
 ·rename_i t x f ho
  exact fI (vKg ok hM (ba x) h) (by cases o;cases ho;rfl) hn
 ·rename_i t x i ho
  exact fI (vOc ok hM (ba x) (ba i) h) (by cases o;cases ho;rfl) hn
 ·rename_i t x i ho
  exact fI (vA7 ok hM (ba x) (ba i) h) (by cases o;cases ho;rfl) hn
 ·rename_i t i ho
  have ht:=ba t
  split at h
  ·rename_i xs OR
   rw[OR] at ht
   obtain⟨vs,dA,bh⟩:=ht
   split at h
   ·rename_i g cs hi
    obtain⟨hp,rfl⟩:=NR h
    have hl:=bh.length
    have aU:i<xs.length:=by
     rcases Nat.lt_or_ge i xs.length with h|h
     ·exact h
     ·rw[List.getElem?_eq_none h] at hi;cases hi
    have eQ:i<vs.size:=by simp at hl;omega
    have hc:=bh.get i aU (by simpa using eQ)
    rw[List.getElem?_eq_getElem aU,Option.some.injEq] at hi
    rw[hi] at hc
    refine pq (rv:=vs[i]) ok hM rfl ?_ ?_ hn
    ·rcases NU hp with⟨e1,rfl⟩|⟨e1,c,rfl,rfl⟩
     ·cases e1;exact hc
     ·cases e1;exact hc
    ·cases o
     cases ho
     show(do pure (.value (←Instr.extract (a.eval t) i)):Sem Next).run E.P w=_
     rw[dA]
     simp[Instr.extract,eQ]
   ·exact h.elim
  ·exact h.elim
 ·rename_i c ho
  have cK:=Zq ba c.args.toList
  have exec:∀b,c.callee=.builtin b→∀s:Sem Value,(∀C,Go.builtin b c.argTypes o.type C (c.args.map a.eval)=(do pure (.value (←s)):Sem Next))→execOp a.eval o=(do pure (.value (←s)):Sem Next):=fun b hb s hs=>by
   cases o
   cases ho
   show(do let d←resolve a.eval c _;invoke d.target d.args:Sem Next)=_
   unfold resolve
   rw[hb]
   exact hs _
  have iD:c.args.map a.eval=(c.args.toList.map a.eval).toArray:=by cases c.args;simp
  split at h
  ·rename_i b iE
   unfold NF at h
   split at h
   ·split at h
    case h_2=>exact h.elim
    rename_i x hx
    have h1:∃rx,(c.args.toList.map a.eval).toArray=#[rx]∧zZ M x rx:=by
     rw[hx] at cK
     match hl:c.args.toList.map a.eval,cK with
     |[rx],hh=>exact⟨rx,rfl,hh.1⟩
    obtain⟨rx,ur,mg⟩:=h1
    split at h
    ·rename_i e hu
     split at h
     ·rename_i n hlen
      obtain⟨rfl,rfl⟩:=wF h
      obtain⟨t,ht,hu⟩:=Option.bind_eq_some_iff.1 hu
      obtain⟨A,k,rfl⟩:=vKz ok mg hlen
      refine fI (s:=Builtin.len_ c.argTypes o.type (c.args.map a.eval)) ?_ (exec _ iE _ fun _=>rfl) hn
      rw[iD,ur]
      exact .pure ok hM (vF5 ht hu) rfl
     ·exact h.elim
    ·exact h.elim
   ·split at h
    case h_2=>exact h.elim
    rename_i b x hx
    have h1:∃rb rx,(c.args.toList.map a.eval).toArray=#[rb,rx]∧qA M b rb∧qA M x rx:=by
     rw[hx] at cK
     match hl:c.args.toList.map a.eval,cK with
     |[rb,rx],hh=>exact⟨rb,rx,rfl,hh.1,hh.2.1⟩
    obtain⟨rb,rx,ur,OT,mg⟩:=h1
    split at h
    ·rename_i t t' hts
     obtain⟨htt,h'⟩:=rV h
     have:t=t':=by simpa using htt
     subst this
     refine fI (s:=Builtin.append_ c.argTypes o.type (c.args.map a.eval)) ?_ (exec _ iE _ fun _=>rfl) hn
     have ht:c.argTypes=#[t,t]:=by
      have:=congrArg List.toArray hts
      simpa using this
     rw[iD,ur,ht]
     exact vIj ok hM OT mg h'
    ·exact h.elim
   ·split at h
    case h_2=>exact h.elim
    rename_i d s hx
    have h1:∃rb rx,(c.args.toList.map a.eval).toArray=#[rb,rx]∧qA M d rb∧qA M s rx:=by
     rw[hx] at cK
     match hl:c.args.toList.map a.eval,cK with
     |[rb,rx],hh=>exact⟨rb,rx,rfl,hh.1,hh.2.1⟩
    obtain⟨rb,rx,ur,OT,mg⟩:=h1
    split at h
    ·rename_i e hu
     obtain⟨OU,h⟩:=rV h
     obtain⟨t,ht,hu⟩:=Option.bind_eq_some_iff.1 hu
     refine fI (s:=Builtin.copy_ c.argTypes o.type (c.args.map a.eval)) ?_ (exec _ iE _ fun _=>rfl) hn
     rw[iD,ur]
     exact yX0 ok hM ht hu (by simpa using OU) OT mg h
    ·exact h.elim
   ·split at h
    case h_2=>exact h.elim
    rename_i id lo n hx
    have h1:∃rx,(c.args.toList.map a.eval).toArray=#[rx]∧zZ M (.osl id (some (lo,n))) rx:=by
     rw[hx] at cK
     match hl:c.args.toList.map a.eval,cK with
     |[rx],hh=>exact⟨rx,rfl,hh.1⟩
    obtain⟨rx,ur,mg⟩:=h1
    split at h
    ·rename_i t ht
     refine fI (s:=Builtin.clear_ c.argTypes o.type (c.args.map a.eval)) ?_ (exec _ iE _ fun _=>rfl) hn
     rw[iD,ur]
     obtain⟨rv,w',M',q1,q2⟩:=vD7 (T:=o.type) ok hM mg h
     refine⟨rv,w',M',?_,q2⟩
     have e:(Builtin.clear_ c.argTypes o.type #[rx]).run E.P w=(Builtin.clear_ #[t] o.type #[rx]).run E.P w:=by
      simp only[Builtin.clear_,ht]
      rfl
     rw[e];exact q1
    ·exact h.elim
   ·refine fI (s:=Builtin.max_ c.argTypes o.type (c.args.map a.eval)) ?_ (exec _ iE _ fun _=>rfl) hn
    rw[iD]
    exact Zg (lt:=false) (ts:=c.argTypes) (T:=o.type) ok hM cK h
   ·refine fI (s:=Builtin.min_ c.argTypes o.type (c.args.map a.eval)) ?_ (exec _ iE _ fun _=>rfl) hn
    rw[iD]
    exact Zg (lt:=true) (ts:=c.argTypes) (T:=o.type) ok hM cK h
   ·exact h.elim
  ·rename_i f iE
   split at h
   ·rename_i OV cap hf
    have Zr:=ba f
    rw[hf] at Zr
    obtain⟨cv,jx,DW⟩:=Zr
    have bh:zQ (qA M) (c.args.toList.map ev++cap.map fun id=>.c (.ptr id 0)) (c.args.map a.eval++cv).toList:=by
     rw[Array.toList_append,Array.toList_map]
     exact cK.append (zQ.map_left DW)
    have mM:(execOp a.eval o).run E.P w=(callFunc OV (c.args.map a.eval++cv)).run E.P w:=by
     cases o
     cases ho
     show(do let d←resolve a.eval c _;invoke d.target d.args:Sem Next).run E.P w=_
     unfold resolve
     rw[iE]
     simp only[jx,Deferred.ofValue,Sem.run_bind,Sem.run_pure,Result.andThen_ok,invoke,Array.empty_append]
    rcases hE.sums k _ OV _ M.h v u h M w _ rfl hM ok bh with⟨h1,h2⟩|⟨rv,w',M',h1,hB,hv⟩
    case inr=>
     unfold Oper.wp
     rw[mM,h1]
     exact hn M' w' rv hB hv
    unfold Oper.wp
    rw[mM,h1,Oper.upon_enter]
    refine Calls.mono h2 fun e w' he=>?_
    cases e with
    |returned rv=>
     obtain⟨M',hB,hv⟩:=he
     exact hn M' w' rv hB hv
    |panicked _=>exact he.elim
    |outgrown=>exact he.elim
   ·exact h.elim
  ·exact h.elim
 ·exact h.elim
section
variable {P:Program} {h h':Hp}
theorem vSp {t:TypeId}{a:zI}(hh:∀id∈yP a,h id=h' id):xy P h t a=xy P h' t a:=by
 unfold xy
 cases a with
 |c v=>cases v<;>first|rfl|(have:=hh _ (List.mem_singleton.2 rfl);simp only[this])
 |_=>rfl
theorem Zs {v:zL}(hh:∀id∈vD v,h id=h' id):lV h v=lV h' v:=by
 unfold lV
 cases v<;>first|rfl|(have:=hh _ (List.mem_singleton.2 rfl);simp only[this])
theorem OW:∀{vs:List zL},(∀id∈vs.flatMap vD,h id=h' id)→ld h vs=ld h' vs
 |[],_=>rfl
 |v::vs,hh=>by
  simp only[List.flatMap_cons,List.mem_append] at hh
  unfold ld
  rw[Zs fun id hi=>hh id (.inl hi),OW fun id hi=>hh id (.inr hi)]
theorem Zt {v:zI}{vs:List zL}(e:mC v=some vs):vs.flatMap vD=yP v:=by
 unfold mC at e
 split at e
 ·cases e;simp[yP]
 ·cases e;rfl
 ·cases e
theorem vPs {t:TypeId}{a v:zI}(ha:∀id∈yP a,h id=h' id)(hv:∀id∈yP v,h id=h' id):xz P h t a v=xz P h' t a v:=by
 unfold xz
 cases e:mC v with
 |none=>rfl
 |some vs=>
  have hf:ld h vs=ld h' vs:=OW (by rw[Zt e];exact hv)
  cases a with
  |c x=>
   cases x with
   |mptr id i=>
    have h1:=ha _ (List.mem_singleton.2 rfl)
    simp only[h1]
    generalize h' id=ob
    rcases ob with _|(_|_|_|_|_|_|_)<;>first|rfl|skip
    all_goals cases v with
    |c y=>cases y with
     |osl jd r=>cases r with
      |none=>
       have h2:=hv _ (List.mem_singleton.2 rfl)
       simp only[h2]
      |some _=>rfl
     |_=>rfl
    |_=>rfl
   |ptr id off=>
    have h1:=ha _ (List.mem_singleton.2 rfl)
    simp only[h1]
   |eptr id i off=>
    have h1:=ha _ (List.mem_singleton.2 rfl)
    simp only[h1,hf]
   |meptr id i j ver=>
    have h1:=ha _ (List.mem_singleton.2 rfl)
    simp only[h1]
   |_=>rfl
  |_=>rfl
theorem OX {v:zL}(hh:∀id∈vD v,h id=h' id):iW h v=iW h' v:=by
 unfold iW
 cases v<;>first|rfl|(have:=hh _ (List.mem_singleton.2 rfl);simp only[this])
theorem vF6 {v:zL}(hh:∀id∈vD v,h id=h' id):xw h v=xw h' v:=by
 have e:=OX hh
 unfold xw
 cases v<;>first|rfl|simp only[e]
theorem vAa {t:TypeId}{x i:zI}(hh:∀id∈yP x,h id=h' id):xA P h t x i=xA P h' t x i:=by
 unfold xA
 generalize P.underlying t=d
 rcases d with _|d
 ·rfl
 ·cases d with
  |slice e=>
   cases x with
   |c v=>
    cases i with
    |c iv=>
     cases iv with
     |int k n=>cases v<;>first|rfl|(have:=hh _ (List.mem_singleton.2 rfl);simp only[this])
     |_=>cases v<;>rfl
    |_=>cases v<;>rfl
   |_=>rfl
  |array n e=>
   cases x with
   |c v=>
    cases v<;>cases i<;>first|rfl|(rename_i iv;cases iv<;>rfl)
   |_=>rfl
  |_=>rfl
theorem vIf {nm:Nat}{t:TypeId}(h0:h nm=h' nm):xD P nm h t=xD P nm h' t:=by
 unfold xD
 rw[h0]
theorem vS1 {t:TypeId}{x i:zI}(hh:∀id∈yP x,h id=h' id):xE P h t x i=xE P h' t x i:=by
 unfold xE
 split
 ·rename_i id n
  rw[hh id (by simp[yP,vD])]
 ·rfl
theorem vDa {t:TypeId}{x i y:zI}(hh:∀id∈yP x,h id=h' id):xF P h t x i y=xF P h' t x i y:=by
 unfold xF
 split
 ·rename_i id n b
  rw[hh id (by simp[yP,vD])]
 ·rfl
theorem vIm {t:TypeId}{x:zI}{lo hi mx:Option zI}(hh:∀id∈yP x,h id=h' id):xG P h t x lo hi mx=xG P h' t x lo hi mx:=by
 unfold xG
 split
 ·rfl
 ·rename_i id r _
  rw[hh id (by simp[yP,vD])]
 ·rename_i id _
  rw[hh id (by simp[yP,vD])]
 ·rename_i id off _
  rw[hh id (by simp[yP,vD])]
 ·rfl
theorem vJh {v:zI}(hh:∀id∈yP v,h id=h' id):tM h v=tM h' v:=by
 unfold tM
 cases v with
 |c v=>cases v with
  |osl jd r=>cases r with
   |none=>
    have h2:=hh _ (List.mem_singleton.2 rfl)
    simp only[h2]
   |some _=>rfl
  |_=>rfl
 |_=>rfl
theorem Zu:∀{parts:List (Nat×zI)} {rows:List (List Int)},(∀id∈(parts.map (·.2)).flatMap yP,h id=h' id)→tN h rows parts=tN h' rows parts
 |[],_,_=>rfl
 |(i,v)::rest,rows,hh=>by
  simp only[List.map_cons,List.flatMap_cons,List.mem_append] at hh
  unfold tN
  rw[vJh fun id hi=>hh id (.inl hi)]
  cases tM h' v with
  |none=>rfl
  |some p=>simp only[Zu fun id hi=>hh id (.inr hi)]
theorem OY {t:Ty}:∀{parts:List (Nat×zI)} {xs:List t.den},(∀id∈(parts.map (·.2)).flatMap yP,h id=h' id)→lW h t xs parts=lW h' t xs parts
 |[],_,_=>rfl
 |(i,v)::rest,xs,hh=>by
  simp only[List.map_cons,List.flatMap_cons,List.mem_append] at hh
  unfold lW
  cases e:mC v with
  |none=>rfl
  |some vs=>
   have hf:ld h vs=ld h' vs:=OW (by rw[Zt e];exact fun id hi=>hh id (.inl hi))
   simp only[hf]
   cases ld h' vs with
   |none=>rfl
   |some p=>
    dsimp only
    cases C7 t p.1 with
    |none=>rfl
    |some x=>simp only[OY fun id hi=>hh id (.inr hi)]
theorem vN2 {mat:Bool}{nm:Nat}{t:TypeId}{n:Nat}{parts:List (Nat×zI)}(h0:h nm=h' nm)(hh:∀id∈(parts.map (·.2)).flatMap yP,h id=h' id):
  xB P mat nm h t n parts=xB P mat nm h' t n parts:=by
 have e:(fun ty=>lW h ty (List.replicate n ty.dflt) parts)=fun ty=>lW h' ty (List.replicate n ty.dflt) parts:=funext fun ty=>OY hh
 have e':∀ty:Ty,lW h ty (List.replicate n ty.dflt) parts=lW h' ty (List.replicate n ty.dflt) parts:=fun ty=>OY hh
 unfold xB
 rw[h0,Zu hh]
 simp only[e']
theorem yZv {mat:Bool}{nm:Nat}{t:TypeId}{l c:zI}(h0:h nm=h' nm):xC P mat nm h t l c=xC P mat nm h' t l c:=by
 unfold xC
 rw[h0]
theorem vDd {t:Ty}{v:zL}(hh:∀id∈vD v,h id=h' id):oV h t v=oV h' t v:=by
 unfold oV
 cases v with
 |osl id r=>
  have:=hh _ (List.mem_singleton.2 rfl)
  simp only[this]
 |_=>rfl
theorem vIz {mat:Bool}{nm:Nat}{t:TypeId}{b x:zI}(h0:h nm=h' nm)(hb:∀id∈yP b,h id=h' id)(hx:∀id∈yP x,h id=h' id):xH P mat nm h t b x=xH P mat nm h' t b x:=by
 unfold xH
 rw[h0]
 generalize P.underlying t=d
 rcases d with _|d
 ·rfl
 cases d with
 |slice e=>
  generalize h' nm=on
  cases on with
  |some _=>rfl
  |none=>
   cases b with
   |c b=>
    cases x with
    |c x=>
     have ht:∀ty,oV h ty x=oV h' ty x:=fun ty=>vDd hx
     simp only[ht]
     cases b with
     |osl id r=>
      have h1:=hb _ (List.mem_singleton.2 rfl)
      simp only[h1]
      cases x with
      |osl jd r2=>
       have h2:=hx _ (List.mem_singleton.2 rfl)
       cases mat with
       |false=>rfl
       |true=>
        generalize g9 P e=et
        rcases et with _|(_|_|_|_)<;>first|rfl|skip
        rename_i t2
        cases t2<;>first|rfl|skip
        rename_i k
        cases k<;>cases r<;>cases r2<;>first|rfl|simp only[h1,h2]
      |_=>cases mat with
       |false=>rfl
       |true=>
        generalize g9 P e=et
        rcases et with _|(_|_|_|_)<;>first|rfl|skip
        rename_i t2
        cases t2<;>first|rfl|skip
        rename_i k
        cases k<;>cases r<;>rfl
     |_=>cases mat with
      |false=>rfl
      |true=>
       generalize g9 P e=et
       rcases et with _|(_|_|_|_)<;>first|rfl|skip
       rename_i t2
       cases t2<;>first|rfl|skip
       rename_i k
       cases k<;>rfl
    |_=>rfl
   |_=>rfl
 |_=>rfl
theorem vAr {d s:zI}(hd:∀id∈yP d,h id=h' id)(hs:∀id∈yP s,h id=h' id):xI h d s=xI h' d s:=by
 unfold xI
 cases d with
 |c d=>
  cases s with
  |c s=>
   cases d with
   |bsl id off n=>
    have h1:=hd _ (List.mem_singleton.2 rfl)
    have h2:iW h s=iW h' s:=OX hs
    simp only[h1]
    cases s<;>first|rfl|simp only[h2]
   |_=>rfl
  |_=>cases d<;>rfl
 |_=>rfl
end
theorem vOr {E:qB}{A:zY}{k pre:Nat}{o:Oper}{ev pt:Operand→zI}{h:Hp}(he:∀x∈o.op.operands,ev x=pt x):iX E A k pre o ev h=iX E A k pre o pt h:=by
 obtain⟨dst,op,type,pos,after,guard⟩:=o
 have eP:∀ps:Array (Nat×Operand),(∀x∈ps.map (·.2),ev x=pt x)→(ps.toList.map fun p=>(p.1,ev p.2))=(ps.toList.map fun p=>(p.1,pt p.2)):=fun ps hp=>
  List.map_congr_left fun p hm=>by
   obtain⟨i,x⟩:=p
   simp only[hp x (Array.mem_map.2 ⟨(i,x),by simpa using hm,rfl⟩)]
 have maps:∀xs:Array Operand,(∀x∈xs,ev x=pt x)→xs.toList.map ev=xs.toList.map pt:=fun xs hp=>List.map_congr_left fun x hm=>hp x (by simpa using hm)
 cases op<;>simp only[Op.operands] at he<;>simp only[iX]
 case build t ps=>rw[eP ps fun x hx=>he x (by simpa using hx)]
 case buildSlice t n ps=>rw[eP ps fun x hx=>he x (by simpa using hx)]
 case makeFunc fn first captured=>
  cases fn<;>first|rfl|skip
  have:captured.toList.mapM (fun x=>rC (ev x))=captured.toList.mapM (fun x=>rC (pt x)):=by
   have h2:∀l:List Operand,(∀x∈l,ev x=pt x)→l.mapM (fun x=>rC (ev x))=l.mapM (fun x=>rC (pt x)):=fun l=>by
    induction l with
    |nil=>exact fun _=>rfl
    |cons y l ih=>exact fun hp=>by simp only[List.mapM_cons,hp y (List.mem_cons_self ..),ih fun x hx=>hp x (List.mem_cons_of_mem _ hx)]
   exact h2 _ fun x hx=>he x (by simp at hx;simp[hx])
  simp only[this]
 case call c=>
  obtain⟨callee,args,Zv⟩:=c
  have ha:=maps args fun x hx=>he x (by simp[Call.operands,hx])
  cases callee with
  |value f=>
   have hf:=he f (by simp[Call.operands])
   simp only[hf,ha]
  |builtin b=>simp only[ha]
  |invoke _ _=>rfl
 case makeMap t r=>cases r<;>rfl
 case lookup t x i ok=>cases ok<;>simp_all
 case slice t x lo hi mx=>
  have h1:=he x (by simp)
  cases lo<;>cases hi<;>cases mx<;>simp_all
 all_goals (first|rfl|(simp only[he _ (by simp:_∈#[_])];done)|(simp_all;done))
def jb (S:Hh):Prop:=∀k nm f (args:List zI) h h',(args.any vK=false→∀id,(id∈args.flatMap yP∨lY nm id=true)→h id=h' id)→(args.any vK=true→h=h')→S k nm f args h=S k nm f args h'
theorem vMa (nm:Nat):lY nm nm=true:=by
 simp[lY,Nat.blt_eq]
theorem vFp {E:qB}(hS:jb E.sums){A:zY}{k pre:Nat}{o:Oper}{ev:Operand→zI}{h h':Hp}
  (hh:match nO ev o with|none=>h=h'|some l=>∀id,(id∈l∨lY (nN pre o.dst) id=true)→h id=h' id):iX E A k pre o ev h=iX E A k pre o ev h':=by
 have full:h=h'→iX E A k pre o ev h=iX E A k pre o ev h':=fun e=>by rw[e]
 unfold nO at hh
 dsimp only at hh
 cases hq:Yh o.op with
 |true=>
  obtain⟨dst,op,type,pos,after,guard⟩:=o
  cases op<;>first|rfl|cases hq
 |false=>
 rw[hq] at hh
 simp only[cond_false] at hh
 cases hc:(NG o.op&&(o.op.operands.toList.map ev).any vK) with
 |true=>rw[hc] at hh;exact full hh
 |false=>
  rw[hc] at hh
  replace hh:∀id,(id∈(o.op.operands.toList.map ev).flatMap yP∨lY (nN pre o.dst) id=true)→h id=h' id:=hh
  have h0:h (nN pre o.dst)=h' (nN pre o.dst):=hh _ (.inr (vMa _))
  have hx:∀x∈o.op.operands,∀id∈yP (ev x),h id=h' id:=fun x hx id ah=>hh id (.inl (List.mem_flatMap.2 ⟨ev x,List.mem_map_of_mem (by simpa using hx),ah⟩))
  obtain⟨dst,op,type,pos,after,guard⟩:=o
  dsimp only at h0 hx hc
  cases op<;>simp only[Op.operands] at hx<;>simp only[iX]
  case alloc t=>rw[h0]
  case box t x=>rw[h0]
  case buildSlice t n ps=>
   exact vN2 h0 fun id ah=>by
    simp only[List.map_map,List.mem_flatMap,List.mem_map,Function.comp] at ah
    obtain⟨v,⟨p,hp,rfl⟩,ah⟩:=ah
    exact hx p.2 (by simp only[List.mem_toArray,List.mem_map];exact⟨p,hp,rfl⟩) id ah
  case load t x=>exact vSp (hx x (by simp))
  case store t x y=>exact vPs (hx x (by simp)) (hx y (by simp))
  case makeSlice t l c=>exact yZv h0
  case slice t x lo hi mx=>exact vIm (hx x (by simp))
  case makeMap t r=>cases r<;>first|rfl|exact vIf h0
  case lookup t x i ok=>cases ok<;>first|rfl|exact vS1 (hx x (by simp))
  case mapUpdate t x i y=>exact vDa (hx x (by simp))
  case indexAddr t x i=>exact vAa (hx x (by simp))
  case call c=>
   obtain⟨callee,args,Zv⟩:=c
   have ha:∀v∈args.toList.map ev,∀id∈yP v,h id=h' id:=fun v hv=>by
    obtain⟨x,uu,rfl⟩:=List.mem_map.1 hv
    exact hx x (by simp at uu;simp[Call.operands,uu])
   cases callee with
   |value f=>
    dsimp only
    cases hf:ev f with
    |c fv=>cases fv with
     |fn OV cap=>
      dsimp only
      simp only[NG,Bool.true_and] at hc
      have gz:cap=[]:=by
       have hm:ev f∈(Op.call ⟨.value f,args,Zv⟩).operands.toList.map ev:=List.mem_map_of_mem (by simp[Op.operands,Call.operands])
       have:=List.any_eq_false.1 hc _ hm
       rw[hf] at this
       simpa[vK] using this
      subst gz
      simp only[List.map_nil,List.append_nil]
      have hb:(args.toList.map ev).any vK=false:=by
       refine List.any_eq_false.2 fun v hv=>?_
       obtain⟨x,uu,rfl⟩:=List.mem_map.1 hv
       exact List.any_eq_false.1 hc _ (List.mem_map_of_mem (by simp at uu;simp[Op.operands,Call.operands,uu]))
      refine hS _ _ _ _ _ _ (fun _ id ah=>?_) fun ht=>?_
      ·rcases ah with ah|ah
       ·obtain⟨v,hv,ah⟩:=List.mem_flatMap.1 ah
        exact ha v hv id ah
       ·exact hh id (.inr ah)
      ·rw[hb] at ht;cases ht
     |_=>rfl
    |_=>rfl
   |invoke _ _=>rfl
   |builtin b=>
    generalize hl:args.toList.map ev=l at ha
    unfold NF
    cases b<;>first|rfl|skip
    case len=>
     match l,ha with
     |[],_=>rfl
     |[v],ha=>cases v with
      |c v=>
       have:=vF6 (ha (.c v) (by simp))
       simp only[this]
      |_=>rfl
     |v::_::_,_=>cases v<;>rfl
    case append=>
     match l,ha with
     |[],_|[_],_|_::_::_::_,_=>rfl
     |[b,x],ha=>
      have:=fun mat t=>vIz (P:=E.P) (mat:=mat) (t:=t) h0 (ha b (by simp)) (ha x (by simp))
      simp only[this]
    case clear=>
     match l,ha with
     |[],_=>rfl
     |[v],ha=>cases v with
      |c v=>cases v with
       |osl id r=>cases r with
        |none=>rfl
        |some p=>
         have e:=ha (.c (.osl id (some p))) (by simp) id (by simp[yP,vD])
         dsimp only
         split
         ·unfold Hf;rw[e]
         ·rfl
       |_=>rfl
      |_=>rfl
     |v::_::_,_=>cases v with
      |c v=>cases v with
       |osl id r=>cases r<;>rfl
       |_=>rfl
      |_=>rfl
    case copy=>
     match l,ha with
     |[],_|[_],_|_::_::_::_,_=>rfl
     |[b,x],ha=>
      have:=vAr (ha b (by simp)) (ha x (by simp))
      simp only[this]
  case makeFunc fn first captured=>cases fn<;>rfl
  all_goals rfl
end Go.Ab
set_option linter.unusedSectionVars false
namespace Go.Ab
structure gC (M M':zC):Prop where
 F:∀b,M.F b→M'.F b
 G:∀b,M.G b→M'.G b
 same:∀b,M.F b→M'.H[b]? =M.H[b]?
 sameG:∀b,M.G b→M'.H[b]? =M.H[b]?
 bsz:∀b,b<M.H.size→qZ M'.H b=qZ M.H b
 size:M.H.size≤M'.H.size
 frame:∀b,b<M.H.size→¬qU M b→M'.H[b]? =M.H[b]?
 own:∀b,qU M' b→b<M.H.size→qU M b
 Gb:∀b,M'.G b→b<M.H.size→M.G b∨qU M b
 Fb:∀b,M'.F b→b<M.H.size→M.F b∨qU M b
theorem yY.grow {M M':zC}(s:yY M M'):gC M M':=⟨s.ext.F,s.ext.G,s.ext.same,s.ext.sameG,s.ext.bsz,s.size,s.frame,s.own,s.Gb,s.Fb⟩
theorem gC.trans {M M' rI:zC}(x:gC M M')(y:gC M' rI):gC M rI where
 F b h:=y.F b (x.F b h)
 G b h:=y.G b (x.G b h)
 same b h:=(y.same b (x.F b h)).trans (x.same b h)
 sameG b h:=(y.sameG b (x.G b h)).trans (x.sameG b h)
 bsz b h:=(y.bsz b (by have:=x.size;omega)).trans (x.bsz b h)
 size:=Nat.le_trans x.size y.size
 frame b h hn:=by
  have:=x.size
  rw[y.frame b (by omega) fun ho=>hn (x.own b ho h),x.frame b h hn]
 own b ho h:=x.own b (y.own b ho (by have:=x.size;omega)) h
 Gb b hg h:=by
  rcases y.Gb b hg (by have:=x.size;omega) with k|k
  ·exact x.Gb b k h
  ·exact .inr (x.own b k h)
 Fb b hg h:=by
  rcases y.Fb b hg (by have:=x.size;omega) with k|k
  ·exact x.Fb b k h
  ·exact .inr (x.own b k h)
structure vQ (na nt:Nat) (a0:Nat→Value) (M0:zC) (w0:World) (st:St) (a:Act) (w:World):Prop where
 ex:∃M:zC,M.h=st.h∧M.H=w.heap∧Ok M∧gC M0 M∧∀t,qA M (st.t t) (a.tmps.getD t undef)
 defers:a.defers=[]
 size:a.tmps.size=nt
 os:w.os=w0.os
 tape:w.tape=w0.tape
 output:w.output=w0.output
 keep:∀t,t<na→a.tmps.getD t undef=a0 t
theorem Zw {M:zC}{st:St}{a:Act}(h:∀t,qA M (st.t t) (a.tmps.getD t undef))(x:Operand):qA M (st.ev x) (a.eval x):=by
 cases x with
 |tmp t=>exact h t
 |const v=>exact vBk M v
 |global g=>trivial
 |func f=>exact⟨#[],rfl,trivial⟩
theorem OZ {t:Nat→zI}{s:Nat}{v:zI}(h:t s=v):jG t s v=t:=by
 funext n
 unfold jG
 cases e:Nat.beq n s with
 |false=>rfl
 |true=>
  have:n=s:=by simpa using e
  rw[this,h];rfl
def yh (ops:Array Oper)(o:Oper)(st:St):Option Bool:=match o.guard with
 |none=>some true
 |some (j,want)=>match Ho ops j with
  |none=>none
  |some s=>match st.t s with
   |.c (.bool b)=>some (b==want)
   |.skp=>some false
   |_=>none
theorem Zx {R:Type}{ops:Array Oper}{o:Oper}{st:St}{yes no:St→Option R}{out:R}(h:Hq ops o st yes no=some out):
  ∃b,yh ops o st=some b∧(if b=true then yes st else no st)=some out:=by
 unfold Hq at h
 unfold yh
 cases hg:o.guard with
 |none=>rw[hg] at h;exact⟨true,rfl,h⟩
 |some p=>
  obtain⟨j,want⟩:=p
  rw[hg] at h
  dsimp only at h⊢
  cases hs:Ho ops j with
  |none=>rw[hs] at h;cases h
  |some s=>
   rw[hs] at h
   dsimp only at h⊢
   split at h
   ·rename_i b hb
    rw[hb]
    refine⟨b==want,rfl,?_⟩
    cases b with
    |true=>
     simp only[cond_true,OZ hb] at h
     cases want<;>exact h
    |false=>
     simp only[cond_false,OZ hb] at h
     cases want<;>exact h
   ·rename_i hb
    rw[hb]
    exact⟨false,rfl,h⟩
   ·cases h
theorem getD_some {a:Array Value}{s:Nat}{v:Value}(h:a.getD s undef=v)(hv:v≠undef):a[s]? =some v:=by
 by_cases hs:s<a.size
 ·simp[Array.getD,hs] at h⊢;exact h
 ·simp[Array.getD,hs] at h
  exact absurd h.symm hv
theorem Zy {ops:Array Oper}{o:Oper}{st:St}{b:Bool}{na nt:Nat}{a0:Nat→Value}{M0:zC}{w0 w:World}{a:Act}(h:yh ops o st=some b)(R:vQ na nt a0 M0 w0 st a w):Region.wanted o (yielded ops a.tmps)=b:=by
 obtain⟨M,_,_,_,_,ht⟩:=R.ex
 unfold yh at h
 unfold Region.wanted
 split at h
 ·rename_i hg
  rw[hg];cases h;rfl
 ·rename_i j want hg
  rw[hg]
  split at h
  ·cases h
  ·rename_i s hs
   have hv:=ht s
   have rZ:(ops[j]?).bind (·.dst)=some s:=hs
   split at h
   ·rename_i b' hb
    cases h
    rw[hb] at hv
    have hv:a.tmps.getD s undef=.bool b':=hv
    have:=getD_some hv (by simp[undef])
    simp only[yielded,rZ,Option.bind_some,this]
    cases b'<;>cases want<;>rfl
   ·rename_i hb
    cases h
    rw[hb] at hv
    have hv:a.tmps.getD s undef=undef:=hv
    simp only[yielded,rZ,Option.bind_some]
    have:∀x:Option Value,(x=none∨x=some undef)→((match x with|some (.bool b)=>some b|_=>none:Option Bool)==some want)=false:=fun x hx=>by
     rcases hx with rfl|rfl<;>cases want<;>rfl
    refine this _ ?_
    by_cases aU:s<a.tmps.size
    ·right
     simp[Array.getD,aU] at hv⊢
     exact hv
    ·left;simp;omega
   ·cases h
theorem rY.rel {na nt:Nat}{a0:Nat→Value}{M0 M M':zC}{w0 w w':World}{st:St}{a:Act}{dst:Option Nat}{v:zI}{u:qH}{rv:Value}(R:vQ na nt a0 M0 w0 st a w)(hh:M.h=st.h)(hs:gC M0 M)(ht:∀t,qA M (st.t t) (a.tmps.getD t undef))
  (hd:∀d,dst=some d→na≤d∧d<nt) (hB:rY M w u M' w') (hv:qA M' v rv):vQ na nt a0 M0 w0 {t:=gZ st.t dst v,h:=qP st.h u} (a.put dst rv) w' where
 ex:=by
  refine⟨M',by rw[hB.h,hh],hB.H,hB.ok,hs.trans hB.step.grow,fun t=>?_⟩
  cases dst with
  |none=>exact(ht t).ext hB.step.ext
  |some d=>
   show qA M' (jG st.t d v t) ((a.tmps.setIfInBounds d rv).getD t undef)
   have aU:d<a.tmps.size:=by rw[R.size];exact(hd d rfl).2
   unfold jG
   cases e:Nat.beq t d with
   |true=>
    have e:t=d:=by simpa using e
    subst e
    simp[aU]
    exact hv
   |false=>
    have e:t≠d:=fun e'=>by subst e';simp at e
    have:=(ht t).ext hB.step.ext
    simp only[Array.getD_eq_getD_getElem?,Array.getElem?_setIfInBounds_ne (Ne.symm e)] at this⊢
    exact this
 defers:=by cases dst<;>exact R.defers
 size:=by cases dst<;>simp[Act.put,R.size]
 os:=hB.os.trans R.os
 tape:=hB.tape.trans R.tape
 output:=hB.output.trans R.output
 keep t h:=by
  cases dst with
  |none=>exact R.keep t h
  |some d=>
   have bn:d≠t:=by have:=(hd d rfl).1;omega
   rw[←R.keep t h]
   simp only[Act.put,Array.getD_eq_getD_getElem?,Array.getElem?_setIfInBounds_ne bn]
theorem vQ.skip {na nt:Nat}{a0:Nat→Value}{M0:zC}{w0 w:World}{st:St}{a:Act}{dst:Option Nat}(hd:∀d,dst=some d→na≤d)(R:vQ na nt a0 M0 w0 st a w):vQ na nt a0 M0 w0 {st with t:=gZ st.t dst .skp} (a.put dst undef) w where
 ex:=by
  obtain⟨M,h1,h2,h3,h4,ht⟩:=R.ex
  refine⟨M,h1,h2,h3,h4,fun t=>?_⟩
  cases dst with
  |none=>exact ht t
  |some d=>
   show qA M (jG st.t d .skp t) ((a.tmps.setIfInBounds d undef).getD t undef)
   unfold jG
   cases e:Nat.beq t d with
   |true=>
    have e:t=d:=by simpa using e
    subst e
    show(a.tmps.setIfInBounds t undef).getD t undef=undef
    by_cases h:t<a.tmps.size<;>simp[Array.getD_eq_getD_getElem?,h]
   |false=>
    have e:t≠d:=fun e'=>by subst e';simp at e
    have:=ht t
    simp only[Array.getD_eq_getD_getElem?,Array.getElem?_setIfInBounds_ne (Ne.symm e)] at this⊢
    exact this
 defers:=by cases dst<;>exact R.defers
 size:=by cases dst<;>simp[Act.put,R.size]
 os:=R.os
 tape:=R.tape
 output:=R.output
 keep t h:=by
  cases dst with
  |none=>exact R.keep t h
  |some d=>
   have bn:d≠t:=by have:=hd d rfl;omega
   rw[←R.keep t h]
   simp only[Act.put,Array.getD_eq_getD_getElem?,Array.getElem?_setIfInBounds_ne bn]
section
variable {E:qB} {A:zY} {k pre na nt:Nat} {a0:Nat→Value} {R:Type} {M0:zC} {w0:World} {Q:Exit→Act→World→Prop}
theorem vQ.op (hE:ga E){st:St}{a:Act}{w:World}{o:Oper}{v:zI}{u:qH}{next:Act→World→Prop}(r:vQ na nt a0 M0 w0 st a w)(hd:∀d,o.dst=some d→na≤d∧d<nt)(hy:yN (iX E A k pre o st.ev st.h) v u)
  (hn:∀a' w',vQ na nt a0 M0 w0 {t:=gZ st.t o.dst v,h:=qP st.h u} a' w'→next a' w'):o.wp E.P a w next Q:=by
 obtain⟨M,h1,h2,h3,h4,ht⟩:=r.ex
 rw[←h1] at hy
 exact vFk hE h3 h2 (Zw ht) hy fun M' w' rv hB hv=>hn _ _ (hB.rel r h1 h4 ht hd hv)
theorem O0 (hE:ga E){dst:Option Nat}(h:oY na nt dst=true):∀d,dst=some d→na≤d∧d<nt:=fun d hd=>by
 subst hd
 simp only[oY,Bool.and_eq_true] at h
 exact⟨Nat.le_of_ble_eq_true h.1,by simpa[Nat.blt_eq] using h.2⟩
theorem Zz (hE:ga E){o:Oper}{st:St}{K:zI→qH→St→Option R}{out:R}(h:Hn E A k pre na nt o st K=some out):
  (∀d,o.dst=some d→na≤d∧d<nt)∧∃v u,yN (iX E A k pre o st.ev st.h) v u∧K v u {t:=gZ st.t o.dst v,h:=qP st.h u}=some out:=by
 unfold Hn at h
 cases hc:oY na nt o.dst with
 |false=>rw[hc] at h;cases h
 |true=>
  rw[hc] at h
  exact⟨O0 hE hc,yJ.elim_some h⟩
theorem ZA (hE:ga E){ops:Array Oper}:∀(l:List (Nat×Oper)) (st:St) (K:St→Option R) (out:R) (a:Act) (w:World),(∀p∈l,ops[p.1]? =some p.2)→Df E A k pre na nt ops l st K=some out→vQ na nt a0 M0 w0 st a w→
  (∀bR a' w',vQ na nt a0 M0 w0 bR a' w'→K bR=some out→Q .normal a' w')→wpOps E.P ops Q (l.map (·.1)) a w
 |[],st,K,out,a,w,_,h,r,hK=>hK st a w r h
 |(i,o)::rest,st,K,out,a,w,hl,h,r,hK=>by
  have ho:ops[i]? =some o:=hl (i,o) (List.mem_cons_self ..)
  have ih:=fun st K out a w=>ZA hE rest st K out a w fun p hp=>hl p (List.mem_cons_of_mem _ hp)
  unfold Df at h
  obtain⟨b,hb,h⟩:=Zx h
  have hw:=Zy hb r
  simp only[List.map_cons,wpOps,ho]
  cases b with
  |true=>
   rw[if_pos rfl] at h
   rw[if_pos hw]
   obtain⟨hd,v,u,hy,h⟩:=Zz hE h
   exact .inl (vQ.op hE r hd hy fun a' w' r'=>ih _ _ _ _ _ h r' hK)
  |false=>
   rw[if_neg (by simp)] at h
   rw[if_neg (by simp[hw])]
   cases hc:oY na nt o.dst with
   |false=>rw[hc] at h;cases h
   |true=>
    rw[hc] at h
    exact ih _ _ _ _ _ h (r.skip fun d hd=>(O0 hE hc d hd).1) hK
end
def yi (o:Oper)(acc:Array Nat):Nat:=o.after.foldl (fun s e=>if Region.binds .any e then s|||2^e.on|||acc.getD e.on 0 else s) 0
theorem ZB (acc:Array Nat)(i:Nat):∀(l:List Edge) (s:Nat),(l.foldl (fun s e=>if Region.binds .any e then s|||2^e.on|||acc.getD e.on 0 else s) s).testBit i=true→
  s.testBit i=true∨∃e∈l,Region.binds .any e=true∧(e.on=i∨(acc.getD e.on 0).testBit i=true)
 |[],s,h=>.inl h
 |e::l,s,h=>by
  rw[List.foldl_cons] at h
  rcases ZB acc i l _ h with h|⟨e',he,h⟩
  ·split at h
   ·rename_i hb
    rw[Nat.testBit_or,Nat.testBit_or,Bool.or_eq_true,Bool.or_eq_true] at h
    rcases h with(h|h)|h
    ·exact .inl h
    ·rw[Nat.testBit_two_pow] at h
     exact .inr ⟨e,List.mem_cons_self ..,hb,.inl (by simpa using h)⟩
    ·exact .inr ⟨e,List.mem_cons_self ..,hb,.inr h⟩
   ·exact .inl h
  ·exact .inr ⟨e',List.mem_cons_of_mem _ he,h⟩
def DX (ops:Array Oper)(acc:Array Nat):Prop:=∀j,j<acc.size→∀i,(acc.getD j 0).testBit i=true→∃o,ops[j]? =some o∧∃e∈o.after.toList,Region.binds .any e=true∧(e.on=i∨(e.on<j∧(acc.getD e.on 0).testBit i=true))
theorem vS2 {ops:Array Oper}{acc:Array Nat}{o:Oper}(h:DX ops acc)(ho:ops[acc.size]? =some o):DX ops (acc.push (yi o acc)):=by
 have pn:∀j,j<acc.size→(acc.push (yi o acc)).getD j 0=acc.getD j 0:=fun j hj=>by
  simp[Array.getD_eq_getD_getElem?,Array.getElem?_push,Nat.ne_of_lt hj]
 intro j hj i hb
 simp only[Array.size_push] at hj
 by_cases aU:j<acc.size
 ·rw[pn j aU] at hb
  obtain⟨o',h1,e,h2,h3,h4⟩:=h j aU i hb
  refine⟨o',h1,e,h2,h3,?_⟩
  rcases h4 with h4|⟨h4,h5⟩
  ·exact .inl h4
  ·exact .inr ⟨h4,by rw[pn _ (by omega)];exact h5⟩
 ·have e:j=acc.size:=by omega
  subst e
  rw[show(acc.push (yi o acc)).getD acc.size 0=yi o acc by simp[Array.getD_eq_getD_getElem?]] at hb
  unfold yi at hb
  rw[←Array.foldl_toList] at hb
  rcases ZB acc i _ _ hb with hb|⟨e,h2,h3,h4⟩
  ·simp at hb
  ·refine⟨o,ho,e,h2,h3,?_⟩
   rcases h4 with h4|h4
   ·exact .inl h4
   ·have eQ:e.on<acc.size:=by
     rcases Nat.lt_or_ge e.on acc.size with h|h
     ·exact h
     ·rw[show acc.getD e.on 0=0 by simp[Array.getD,Nat.not_lt.2 h]] at h4
      simp at h4
    exact .inr ⟨eQ,by rw[pn _ eQ];exact h4⟩
theorem vJx (ops:Array Oper):DX ops (Region.before ops):=by
 have key:∀(l:List Oper) (acc:Array Nat),DX ops acc→(∀m (hm:m<l.length),ops[acc.size+m]? =some l[m])→
   DX ops (l.foldl (fun acc o=>acc.push (yi o acc)) acc):=by
  intro l
  induction l with
  |nil=>exact fun acc h _=>h
  |cons o l ih=>
   intro acc h ho
   rw[List.foldl_cons]
   refine ih _ (vS2 h (ho 0 (by simp))) fun m hm=>?_
   have:=ho (m+1) (by simp;omega)
   simp only[Array.size_push,List.getElem_cons_succ] at this⊢
   rw[←this];congr 1;omega
 have:=key ops.toList #[] (fun j hj=>by simp at hj) fun m hm=>by simp at hm⊢
 unfold Region.before
 rw[←Array.foldl_toList]
 exact this
theorem ZC {ops:Array Oper}{i j:Nat}(h:lg (Region.before ops) i j=true):∃o,ops[j]? =some o∧∃e∈o.after.toList,Region.binds .any e=true∧(e.on=i∨(e.on<j∧lg (Region.before ops) i e.on=true)):=by
 unfold lg at h
 by_cases hj:j<(Region.before ops).size
 ·exact vJx ops j hj i h
 ·rw[show(Region.before ops).getD j 0=0 by simp[Array.getD,hj]] at h
  simp at h
def DY (ops:Array Oper)(S:Nat→Bool):Prop:=∀j o,S j=true→ops[j]? =some o→∀e∈o.after.toList,Region.binds .any e=true→S e.on=true
theorem ZD {ops:Array Oper}{S:Nat→Bool}(hS:DY ops S){i:Nat}:∀(n j:Nat),j=n→lg (Region.before ops) i j=true→S j=true→S i=true:=by
 intro n
 induction n using Nat.strongRecOn with
 |_ n ih=>
  intro j hj h hs
  obtain⟨o,ho,e,he,hb,h⟩:=ZC h
  have DZ:=hS j o hs ho e he hb
  rcases h with h|⟨h,hi⟩
  ·rw[←h];exact DZ
  ·exact ih e.on (by omega) e.on rfl hi DZ
theorem vSf {ops:Array Oper}{S:Nat→Bool}(hS:DY ops S){i j:Nat}(h:lg (Region.before ops) i j=true)(hr:∀o,ops[j]? =some o→∀e∈o.after.toList,Region.binds .any e=true→S e.on=true):S i=true:=by
 obtain⟨o,ho,e,he,hb,h⟩:=ZC h
 have DZ:=hr o ho e he hb
 rcases h with h|⟨h,hi⟩
 ·rw[←h];exact DZ
 ·exact ZD hS _ _ rfl hi DZ
structure It where
 i:Nat
 o:Oper
 v:zI
 u:qH
 r:Option (List Nat)
 wt:Bool
def It.dn (pre:Nat)(it:It):rD:=⟨it.i,nN pre it.o.dst,jM it.u,it.r⟩
def vR (st:St)(it:It):St:={t:=gZ st.t it.o.dst it.v,h:=qP st.h it.u}
section
variable (E:qB) (A:zY) (k pre na nt:Nat) (ops:Array Oper)
structure H3 (st:St) (it:It):Prop where
 w:yh ops it.o st=some it.wt
 y:it.wt=true→(∀d,it.o.dst=some d→na≤d∧d<nt)∧yN (iX E A k pre it.o st.ev st.h) it.v it.u∧it.r=nO st.ev it.o
 n:it.wt=false→it.v=.skp∧it.u=[]∧∀d,it.o.dst=some d→na≤d∧d<nt
def O1 (b:Array Nat)(x y:It):Prop:=lg b x.i y.i=true∨(oX ops x.i y.i=true∧(x.wt=true→y.wt=true→oW (x.dn pre) (y.dn pre)=false))
end
section
variable {E:qB} {A:zY} {k pre na nt:Nat} {R:Type} {ops:Array Oper} {b:Array Nat}
theorem O2 (hE:ga E):∀(rest:List (Nat×Oper)) (done:List rD) (st:St) (K:St→Option R) (out:R),xK E A k pre na nt ops b rest done st K=some out→
  ∃dG:List It,dG.map (fun it=>(it.i,it.o))=rest∧K (dG.foldl vR st)=some out∧(∀bT it post,dG=bT++it::post→H3 E A k pre na nt ops (bT.foldl vR st) it)∧
   (∀d∈done,∀it∈dG,lg b d.i it.i=true∨(oX ops d.i it.i=true∧(it.wt=true→oW d (it.dn pre)=false)))∧dG.Pairwise (O1 pre ops b)
 |[],done,st,K,out,h=>⟨[],rfl,h,fun bT it post e=>by simp at e,fun _ _ _ h=>by simp at h,.nil⟩
 |(i,o)::rest,done,st,K,out,h=>by
  unfold xK at h
  generalize hc:(done.all fun d=>lg b d.i i||oX ops d.i i)=c at h
  cases c with
  |false=>cases h
  |true=>
   have mQ:∀d∈done,lg b d.i i=true∨oX ops d.i i=true:=fun d hd=>by
    have:=List.all_eq_true.1 hc d hd
    simpa[Bool.or_eq_true] using this
   rw[cond_true] at h
   obtain⟨bw,hb,h⟩:=Zx h
   cases bw with
   |true=>
    rw[if_pos rfl] at h
    obtain⟨hd,v,u,hy,h⟩:=Zz hE h
    dsimp only at h
    generalize cz:(done.all fun d=>lg b d.i i|| !oW d ⟨i,nN pre o.dst,jM u,nO st.ev o⟩)=c2 at h
    cases c2 with
    |false=>exact absurd h (by simp)
    |true=>
     rw[cond_true] at h
     have DE:∀d∈done,lg b d.i i=true∨oW d ⟨i,nN pre o.dst,jM u,nO st.ev o⟩=false:=fun d hd=>by
      have:=List.all_eq_true.1 cz d hd
      simpa[Bool.or_eq_true] using this
     obtain⟨dG,h1,h2,h3,h4,h5⟩:=O2 hE rest _ _ K out h
     let it:It:=⟨i,o,v,u,nO st.ev o,true⟩
     refine⟨it::dG,by rw[List.map_cons,h1],h2,fun bT uv post e=>?_,fun d jy uv iF=>?_,?_⟩
     ·cases bT with
      |nil=>
       simp only[List.nil_append,List.cons.injEq] at e
       obtain⟨rfl,rfl⟩:=e
       exact⟨hb,fun _=>⟨hd,hy,rfl⟩,fun h=>(by cases h)⟩
      |cons p bT=>
       simp only[List.cons_append,List.cons.injEq] at e
       obtain⟨rfl,e⟩:=e
       exact h3 bT uv post e
     ·rcases List.mem_cons.1 iF with rfl|iF
      ·rcases mQ d jy with h|h
       ·exact .inl h
       ·rcases DE d jy with h'|h'
        ·exact .inl h'
        ·exact .inr ⟨h,fun _=>h'⟩
      ·exact h4 d (List.mem_cons_of_mem _ jy) uv iF
     ·refine List.pairwise_cons.2 ⟨fun y uw=>?_,h5⟩
      rcases h4 (it.dn pre) (List.mem_cons_self ..) y uw with h|⟨h,h'⟩
      ·exact .inl h
      ·exact .inr ⟨h,fun _ hw=>h' hw⟩
   |false=>
    rw[if_neg (by simp)] at h
    have pv:oY na nt o.dst=true:=by
     cases hc:oY na nt o.dst with
     |true=>rfl
     |false=>rw[hc] at h;cases h
    rw[pv] at h
    rw[cond_true] at h
    obtain⟨dG,h1,h2,h3,h4,h5⟩:=O2 hE rest _ _ K out h
    let it:It:=⟨i,o,.skp,[],some [],false⟩
    refine⟨it::dG,by rw[List.map_cons,h1],h2,fun bT uv post e=>?_,fun d jy uv iF=>?_,?_⟩
    ·cases bT with
     |nil=>
      simp only[List.nil_append,List.cons.injEq] at e
      obtain⟨rfl,rfl⟩:=e
      exact⟨hb,fun h=>(by cases h),fun _=>⟨rfl,rfl,O0 hE pv⟩⟩
     |cons p bT=>
      simp only[List.cons_append,List.cons.injEq] at e
      obtain⟨rfl,e⟩:=e
      exact h3 bT uv post e
    ·rcases List.mem_cons.1 iF with rfl|iF
     ·rcases mQ d jy with h|h
      ·exact .inl h
      ·exact .inr ⟨h,fun h=>(by cases h)⟩
     ·exact h4 d (List.mem_cons_of_mem _ jy) uv iF
    ·refine List.pairwise_cons.2 ⟨fun y uw=>?_,h5⟩
     rcases h4 (it.dn pre) (List.mem_cons_self ..) y uw with h|⟨h,h'⟩
     ·exact .inl h
     ·exact .inr ⟨h,fun hw=>(by cases hw)⟩
end
end Go.Ab
