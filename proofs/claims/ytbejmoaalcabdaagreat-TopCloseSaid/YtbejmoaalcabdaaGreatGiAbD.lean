/- part 3 -/
import Derived.Test.YtbejmoaalcabdaaGreatGiAbC
import Derived.Laws.Externs
set_option linter.unusedVariables false
set_option linter.unusedSimpArgs false
set_option linter.unusedSectionVars false
namespace Go.Ab
theorem DV {M Ml:zB}{ak:List Nat}(lo:oK M ak Ml):∀{cs aM:List zG} {vs:List Value},zP (oL M ak Ml.κ) cs aM→zP (zW M) cs vs→zP (zW Ml) aM vs
 |[],[],[],_,_=>trivial
 |_::_,_::_,_::_,h,k=>⟨h.1 _ _ lo rfl k.1,DV lo h.2 k.2⟩
 |[],[],_::_,_,k=>k.elim
 |[],_::_,_,h,_=>h.elim
 |_::_,[],_,h,_=>h.elim
 |_::_,_::_,[],_,k=>k.elim
def yw (ak:List Nat)(bs:List (Bool×Nat)):Prop:=∀b∈bs,(b.1=true→b.2∈ak)∧(b.1=false→b.2∉ak)
theorem yY0 {M:zB}(ok:Ok M){ak:List Nat}(ho:lM M ak){io:Bool}{id:Nat}{cells:List zG}(h:yr M.h io id=some cells)(hm:(io=true→id∈ak)∧(io=false→id∉ak)):
  ∃C B,M.κ id=some C∧C.blk=some B∧∀(Ml:zB) (bG:List zG),oK M ak Ml→zP (oL M ak Ml.κ) cells bG→yR Ml (bif io then .box true bG else .robox bG) C:=by
 unfold yr at h
 split at h
 ·rename_i cs aa
  cases h
  obtain⟨C,hC,B,vals,e,h1,h2,h3,h4,h5⟩:=ok.obj id _ aa
  exact⟨C,B,hC,h1,fun Ml bG lo ht=>⟨B,vals,e,h1,h2,by rw[lo.H];exact h3,DV lo ht h4,fun e=>by cases e⟩⟩
 ·rename_i own cs aa
  cases h
  obtain⟨C,hC,B,vals,e,h1,h2,h3,h4,h5⟩:=ok.obj id _ aa
  refine⟨C,B,hC,h1,fun Ml bG lo ht=>⟨B,vals,e,h1,h2,by rw[lo.H];exact h3,DV lo ht h4,?_⟩⟩
  rw[lo.F]
  cases own with
  |false=>exact qh ok ho (ok.GF B (h5 rfl))
  |true=>
   refine⟨(Array.getElem?_eq_some_iff.1 h3).1,fun hd=>?_⟩
   obtain⟨jd,hj,D,hD,hb⟩:=hd
   obtain⟨q,q1,q2⟩:=ho jd hj
   exact ok.disj jd id q _ D C B (fun e=>hm.2 rfl (by rw[←e];exact hj)) q1 aa q2 rfl hD hC hb (by simp[zS.fp,h1])
 ·rename_i cs aa
  cases h
  obtain⟨C,hC,B,vals,e,h1,h2,h3,h4,h5⟩:=ok.obj id _ aa
  refine⟨C,B,hC,h1,fun Ml bG lo ht=>⟨B,vals,e,h1,h2,by rw[lo.H];exact h3,DV lo ht h4,?_⟩⟩
  rw[lo.F]
  exact qh ok ho h5
 ·cases h
def OF (M:zB)(ak:List Nat)(bs:List (Bool×Nat))(mk:List zG→List Obj)(cs:List zG):Prop:=∀(Ml:zB) (aM:List zG),oK M ak Ml→zP (oL M ak Ml.κ) cs aM→
 zP (fun(b:Bool×Nat) o=>∃C B,M.κ b.2=some C∧C.blk=some B∧yR Ml o C∧o.owned=b.1) bs (mk aM)
theorem HG {M:zB}(ok:Ok M){ak:List Nat}(ho:lM M ak):∀{ls:List (Bool×List XC)} {ids:List Nat} {cs:List zG} {bs:List (Bool×Nat)},gX M.h ls ids=some (cs,bs)→yw ak bs→
  cs.length=(ls.flatMap (·.2)).length∧bs=(ls.map (·.1)).zip ids∧ids.length=ls.length∧OF M ak bs (DQ ls) cs
 |[],[],cs,bs,h,_=>by cases h;exact⟨rfl,rfl,rfl,fun _ _ _ _=>trivial⟩
 |(io,l)::ls,id::ids,cs,bs,h,hf=>by
  unfold gX at h
  split at h
  ·rename_i cells rest uY h1 h2
   obtain⟨hl,h⟩:=vE h
   cases h
   have hl:cells.length=l.length:=Nat.eq_of_beq_eq_true hl
   obtain⟨C,B,hC,hB,hO⟩:=yY0 ok ho h1 (hf _ (List.mem_cons_self ..))
   obtain⟨k1,k2,k3,k4⟩:=HG ok ho h2 fun b hb=>hf b (List.mem_cons_of_mem _ hb)
   refine⟨by simp[hl,k1],by rw[k2];rfl,by simp[k3],fun Ml aM lo ht=>?_⟩
   have jc:=zP.take l.length ht
   have kb:=zP.drop l.length ht
   rw[←hl,List.take_left] at jc
   rw[←hl,List.drop_left] at kb
   refine⟨⟨C,B,hC,hB,?_,?_⟩,?_⟩
   ·rw[←hl];exact hO Ml _ lo jc
   ·cases io<;>rfl
   ·rw[←hl];exact k4 Ml _ lo kb
  ·cases h
 |[],_::_,_,_,h,_=>by cases h
 |_::_,[],_,_,h,_=>by cases h
theorem DW {h:Hp}:∀{ls:List (Bool×List XC)} {ids:List Nat} {cs:List zG} {bs:List (Bool×Nat)},gX h ls ids=some (cs,bs)→bs.length=ls.length
 |[],[],_,_,e=>by cases e;rfl
 |(io,l)::ls,id::ids,cs,bs,e=>by
  unfold gX at e
  split at e
  ·rename_i cells rest uY h1 h2
   obtain⟨_,e⟩:=vE e
   cases e
   simp[DW h2]
  ·cases e
 |[],_::_,_,_,e=>by cases e
 |_::_,[],_,_,e=>by cases e
theorem yY2 {h:Hp}{s:AX}{a:zD}{cs:List zG}{bs:List (Bool×Nat)}(e:s.get h a=some (cs,bs)):bs.length=s.nb:=by
 unfold AX.get at e
 split at e
 ·cases e;rfl
 ·obtain⟨_,e⟩:=vE e
  cases e;rfl
 ·rw[DW e];rfl
 ·obtain⟨_,e⟩:=vE e
  rw[DW e];rfl
 ·split at e
  ·rw[DW e];simp[yq,AX.nb]
  ·cases e
 ·cases e
theorem OG {h:Hp}:∀{n id:Nat} {ids:List Nat},DN h n id=some ids→ids.head? =some id∧ids.length=n
 |0,_,_,e=>by cases e
 |1,_,_,e=>by cases e;exact⟨rfl,rfl⟩
 |n+2,id,ids,e=>by
  unfold DN at e
  split at e
  ·split at e
   ·split at e
    ·rename_i l hl
     cases e
     exact⟨rfl,by simp[(OG hl).2]⟩
    ·cases e
   ·cases e
  ·cases e
theorem yYx {M:zB}(ok:Ok M){ak:List Nat}(ho:lM M ak){s:AX}{a:zD}{v:Value}{cs:List zG}{bs:List (Bool×Nat)}(hv:zU M a v)(h:s.get M.h a=some (cs,bs))(hf:yw ak bs):
  cs.length=s.cells.length∧OF M ak bs (fun aM=>s.boxes aM) cs∧∀(Ml:zB) (aM:List zG) (n:Nat),oK M ak Ml→zP (oL M ak Ml.κ) cs aM→(∀i b,bs[i]? =some b→Ml.κ (n+i)=M.κ b.2)→zU Ml (s.mk n aM) v:=by
 unfold AX.get at h
 split at h
 ·rename_i p x
  cases h
  refine⟨rfl,fun Ml aM lo ht=>trivial,fun Ml aM n lo ht _=>?_⟩
  match aM,ht with
  |[c'],ht=>exact ht.1 v Ml lo rfl hv
 ·rename_i l xs
  obtain⟨hl,h'⟩:=vE h
  cases h'
  have hl:cs.length=l.length:=Nat.eq_of_beq_eq_true hl
  obtain⟨vs,rfl,hx⟩:=hv
  exact⟨by simp[AX.cells,hl],fun Ml aM lo ht=>trivial,fun Ml aM n lo ht _=>⟨vs,rfl,DV lo ht hx⟩⟩
 ·rename_i io l id
  obtain⟨k1,k2,k3,k4⟩:=HG ok ho h hf
  refine⟨by rw[k1];simp[AX.cells],k4,fun Ml aM n lo ht hκ=>?_⟩
  obtain⟨C,B,hC,hB,e⟩:=hv
  exact⟨C,B,by have:=hκ 0 (io,id) (by rw[k2];rfl);rw[Nat.add_zero] at this;rw[this];exact hC,hB,e⟩
 ·rename_i f bq g ids
  obtain⟨hg,h'⟩:=vE h
  have Og:f=g:=Nat.eq_of_beq_eq_true hg
  subst Og
  obtain⟨k1,k2,k3,k4⟩:=HG ok ho h' hf
  refine⟨by rw[k1];rfl,k4,fun Ml aM n lo ht hκ=>?_⟩
  obtain⟨cv,rfl,hc⟩:=hv
  refine⟨cv,rfl,?_⟩
  have l2:=hc.length
  refine zP.of_get (by rw[List.length_map,List.length_range];omega) fun i h1 h2=>?_
  simp only[List.getElem_map,List.getElem_range]
  have hi:i<ids.length:=by simp at h1;omega
  obtain⟨C,B,q1,q2,q3⟩:=hc.get i hi h2
  have hb:bs[i]? =some ((bq.map (·.1))[i]'(by simp at h1⊢;omega),ids[i]):=by
   rw[k2,List.getElem?_eq_getElem (by rw[List.length_zip,List.length_map];omega),List.getElem_zip]
  exact⟨C,B,by rw[hκ i _ hb];exact q1,q2,q3⟩
 ·rename_i ls id
  split at h
  ·rename_i ids iu
   obtain⟨k1,k2,k3,k4⟩:=HG ok ho h hf
   refine⟨by rw[k1];simp[AX.cells,yq,List.flatMap_map,List.flatMap_id'],k4,fun Ml aM n lo ht hκ=>?_⟩
   obtain⟨C,B,hC,hB,e⟩:=hv
   have hb:bs[0]? =some (true,id):=by
    obtain⟨h1,h2⟩:=OG iu
    rw[k2]
    cases ids with
    |nil=>cases h1
    |cons i ids=>
     cases h1
     cases ls with
     |nil=>cases k3
     |cons l ls=>rfl
   exact⟨C,B,by have:=hκ 0 _ hb;rw[Nat.add_zero] at this;rw[this];exact hC,hB,e⟩
  ·cases h
 ·cases h
theorem YQ {M:zB}(ok:Ok M){ak:List Nat}(ho:lM M ak):∀{l:List AX} {as:List zD} {vs:List Value} {cs:List zG} {bs:List (Bool×Nat)},zP (zU M) as vs→iD M.h l as=some (cs,bs)→yw ak bs→
  cs.length=(l.flatMap AX.cells).length∧(∀n,OF M ak bs (fun aM=>(sK l aM n).2) cs)∧
   ∀(Ml:zB) (aM:List zG) (n:Nat),oK M ak Ml→zP (oL M ak Ml.κ) cs aM→(∀i b,bs[i]? =some b→Ml.κ (n+i)=M.κ b.2)→zP (zU Ml) (sK l aM n).1 vs
 |[],[],[],cs,bs,_,h,_=>by cases h;exact⟨rfl,fun _ _ _ _ _=>trivial,fun _ _ _ _ _ _=>trivial⟩
 |s::l,a::as,v::vs,cs,bs,hv,h,hf=>by
  unfold iD at h
  split at h
  ·rename_i kN DX YR bs2 h1 h2
   cases h
   have hf1:yw ak DX:=fun b hb=>hf b (List.mem_append_left _ hb)
   have hf2:yw ak bs2:=fun b hb=>hf b (List.mem_append_right _ hb)
   obtain⟨k1,k2,k3⟩:=yYx ok ho hv.1 h1 hf1
   obtain⟨k4,k5,k6⟩:=YQ ok ho hv.2 h2 hf2
   have cut:∀{κ:Nat→Option zS} {aM:List zG},zP (oL M ak κ) (kN++YR) aM→zP (oL M ak κ) kN (aM.take s.cells.length)∧zP (oL M ak κ) YR (aM.drop s.cells.length):=by
    intro κ aM ht
    have jc:=zP.take s.cells.length ht
    have kb:=zP.drop s.cells.length ht
    rw[←k1,List.take_left,k1] at jc
    rw[←k1,List.drop_left,k1] at kb
    exact⟨jc,kb⟩
   refine⟨by simp[k1,k4],fun n Ml aM lo ht=>?_,fun Ml aM n lo ht hκ=>?_⟩
   ·obtain⟨jc,kb⟩:=cut ht
    exact(k2 Ml _ lo jc).append (k5 _ Ml _ lo kb)
   ·obtain⟨jc,kb⟩:=cut ht
    have hlen:=(k2 Ml _ lo jc).length
    refine⟨k3 Ml _ n lo jc fun i b hb=>hκ i b ?_,k6 Ml _ _ lo kb fun i b hb=>?_⟩
    ·have:i<DX.length:=(List.getElem?_eq_some_iff.1 hb).1
     rw[List.getElem?_append_left this];exact hb
    ·have:=hκ (DX.length+i) b (by rw[List.getElem?_append_right (by omega)];rw[show DX.length+i-DX.length=i by omega];exact hb)
     rw[←this,Nat.add_assoc,hlen]
  ·cases h
 |[],[],_::_,_,_,hv,_,_=>hv.elim
 |[],_::_,_,_,_,_,h,_=>by cases h
 |_::_,[],_,_,_,_,h,_=>by cases h
 |_::_,_::_,[],_,_,hv,_,_=>hv.elim
def κX (M : zB) (bs : List (Bool × Nat)) (rows : List Nat) : Nat → Option zS := fun n => bif Nat.ble vR n then (match rows[n-vR]? with
  |some id=>(M.κ id).map fun C=>{C with ver:=0}
  |none=>none)
 else (match bs[n]? with
  |some b=>M.κ b.2
  |none=>none)
theorem u6:∀{bs:List (Bool×Nat)} {i id:Nat},bs[i]? =some (true,id)→id∈yZ bs
 |(true,a)::bs,0,id,h=>by cases h;exact List.mem_cons_self ..
 |(true,a)::bs,i+1,id,h=>List.mem_cons_of_mem _ (u6 (bs:=bs) (i:=i) h)
 |(false,a)::bs,0,id,h=>by cases h
 |(false,a)::bs,i+1,id,h=>u6 (bs:=bs) (i:=i) h
theorem OH:∀{bs:List (Bool×Nat)} {i j id:Nat},(yZ bs).Nodup→bs[i]? =some (true,id)→bs[j]? =some (true,id)→i=j
 |(true,a)::bs,0,0,id,_,_,_=>rfl
 |(true,a)::bs,0,j+1,id,hn,h,k=>by
  cases h
  exact absurd (u6 (bs:=bs) (i:=j) k) (List.nodup_cons.1 hn).1
 |(true,a)::bs,i+1,0,id,hn,h,k=>by
  cases k
  exact absurd (u6 (bs:=bs) (i:=i) h) (List.nodup_cons.1 hn).1
 |(true,a)::bs,i+1,j+1,id,hn,h,k=>by rw[OH (bs:=bs) (List.nodup_cons.1 hn).2 h k]
 |(false,a)::bs,0,j,id,_,h,_=>by cases h
 |(false,a)::bs,i+1,0,id,_,_,k=>by cases k
 |(false,a)::bs,i+1,j+1,id,hn,h,k=>by rw[OH (bs:=bs) hn h k]
theorem vBr {M:zB}(ok:Ok M){l:List AX}{as:List zD}{vs:List Value}{cs:List zG}{bs:List (Bool×Nat)}{d:XD l}(hv:zP (zU M) as vs)(hg:iD M.h l as=some (cs,bs))(hd:ng M.h (l.flatMap AX.cells) cs=some d)
  (dd:(yZ bs++wO (l.flatMap AX.cells) cs).Nodup) (mV:∀id∈DP (l.flatMap AX.cells) cs,id∉yZ bs++wO (l.flatMap AX.cells) cs) (sO:∀id∈HF bs,id∉yZ bs++wO (l.flatMap AX.cells) cs) (hlen:bs.length≤vR) (qi:oH ((l.flatMap AX.cells).map XC.lnk) (bs.map (·.2)) cs=true) (ho:lM M (yZ bs++wO (l.flatMap AX.cells) cs)):
  ∃Ml:zB,oK M (yZ bs++wO (l.flatMap AX.cells) cs) Ml∧Ml.h=(iE l d).2∧Ok Ml∧(∀b,qR Ml b→je M (yZ bs++wO (l.flatMap AX.cells) cs) b)∧zP (zU Ml) (iE l d).1 vs∧Ml.κ=κX M bs (wO (l.flatMap AX.cells) cs):=by
 generalize fJ:yZ bs++wO (l.flatMap AX.cells) cs=ak at*
 have sP:yw ak bs:=by
  intro b hb
  obtain⟨i,hi,rfl⟩:=List.getElem_of_mem hb
  have sj:bs[i]? =some bs[i]:=List.getElem?_eq_getElem hi
  refine⟨fun e=>?_,fun e=>?_⟩
  ·rw[←fJ]
   have:bs[i]? =some (true,bs[i].2):=by rw[sj,←e]
   exact List.mem_append_left _ (u6 this)
  ·apply sO
   clear hg hd dd mV sO hlen ho fJ hv qi
   induction bs generalizing i with
   |nil=>exact absurd hi (Nat.not_lt_zero i)
   |cons c bs ih=>
    obtain⟨io,a⟩:=c
    cases i with
    |zero=>cases io<;>first|exact List.mem_cons_self .. |cases e
    |succ i=>cases io<;>first|exact List.mem_cons_of_mem _ (ih i (by simpa using hi) (List.getElem_mem _) (List.getElem?_eq_getElem _) e)|exact ih i (by simpa using hi) (List.getElem_mem _) (List.getElem?_eq_getElem _) e
 let κ:=κX M bs (wO (l.flatMap AX.cells) cs)
 obtain⟨k1,k2,k3⟩:=yv ok ho (κ:=κ) (n:=vR) (ids:=bs.map (·.2)) hd qi mV
 have ht : zP (oL M ak κ) cs (fk (l.flatMap AX.cells) d vR).1 := k3 (fun i id C hi hC=>by
  show κX M bs _ (vR+i)=_
  unfold κX
  rw[Nat.ble_eq_true_of_le (Nat.le_add_right _ _),show vR+i-vR=i by omega,hi]
  simp[hC]) fun j id hj=>by
  rw[List.getElem?_map] at hj
  obtain⟨b,hb,rfl⟩:=Option.map_eq_some_iff.1 hj
  have hi:j<bs.length:=(List.getElem?_eq_some_iff.1 hb).1
  show κX M bs _ j=_
  unfold κX
  have:Nat.ble vR j=false:=by
   cases h:Nat.ble vR j with
   |false=>rfl
   |true=>have:=Nat.le_of_ble_eq_true h;omega
  rw[this,hb]
  rfl
 obtain⟨a1,a2,a3⟩:=YQ ok ho hv hg sP
 let Ml:zB:={κ:=κ,F:=fun b=>b<M.H.size∧¬je M ak b,G:=M.G,h:=(iE l d).2,H:=M.H}
 have lo:oK M ak Ml:=⟨rfl,rfl,rfl⟩
 have u9:=a2 0 Ml _ lo ht
 have hκbox:∀i b,bs[i]? =some b→Ml.κ (0+i)=M.κ b.2:=fun i b hb=>by
  have hi:i<bs.length:=(List.getElem?_eq_some_iff.1 hb).1
  show κX M bs _ (0+i)=_
  unfold κX
  have:Nat.ble vR (0+i)=false:=by
   cases h:Nat.ble vR (0+i) with
   |false=>rfl
   |true=>have:=Nat.le_of_ble_eq_true h;omega
  rw[this,Nat.zero_add,hb]
  rfl
 have iF:∀id o,Ml.h id=some o→∃jd C,Ml.κ id=some C∧yR Ml o C∧(o.owned=true→jd∈ak∧∃D,M.κ jd=some D∧D.fp=C.fp)∧
   ((Nat.ble vR id=true∧(wO (l.flatMap AX.cells) cs)[id-vR]? =some jd)∨(Nat.ble vR id=false∧∃io,bs[id]? =some (io,jd)∧o.owned=io)):=by
  intro id o h
  have h:DR (sK l (fk (l.flatMap AX.cells) d vR).1 0).2 (fk (l.flatMap AX.cells) d vR).2 id=some o:=h
  unfold DR at h
  cases hb:Nat.ble vR id with
  |true=>
   rw[hb] at h
   have h:(fk (l.flatMap AX.cells) d vR).2[id-vR]? =some o:=h
   have hi:=(List.getElem?_eq_some_iff.1 h).1
   have hj:(wO (l.flatMap AX.cells) cs)[id-vR]? =some ((wO (l.flatMap AX.cells) cs)[id-vR]'(by omega)):=List.getElem?_eq_getElem (by omega)
   obtain⟨C,hR⟩:=k2 _ _ _ hj h
   refine⟨_,{C with ver:=0},?_,hR.rep Ml rfl rfl,fun _=>⟨?_,C,hR.κ,rfl⟩,.inl ⟨rfl,hj⟩⟩
   ·show κX M bs _ id=_
    unfold κX
    rw[hb,hj]
    simp[hR.κ]
   ·rw[←fJ]
    exact List.mem_append_right _ (List.getElem_mem _)
  |false=>
   rw[hb] at h
   have h:(sK l (fk (l.flatMap AX.cells) d vR).1 0).2[id]? =some o:=h
   have hi:=(List.getElem?_eq_some_iff.1 h).1
   have OI:id<bs.length:=by rw[u9.length];exact hi
   have hq:=u9.get id OI hi
   rw[List.getElem?_eq_getElem hi] at h
   cases h
   obtain⟨C,B,q1,q2,q3,q4⟩:=hq
   have sj:bs[id]? =some bs[id]:=List.getElem?_eq_getElem OI
   refine⟨bs[id].2,C,?_,q3,fun e=>⟨(sP _ (List.getElem_mem OI)).1 (by rw[←q4];exact e),C,q1,rfl⟩,.inr ⟨rfl,bs[id].1,sj,q4⟩⟩
   have:=hκbox id _ sj
   rw[Nat.zero_add] at this
   rw[this];exact q1
 have aD:∀b,qR Ml b→je M ak b:=fun b ⟨id,o,C,h1,h2,h3,h4⟩=>by
  obtain⟨jd,C',q1,_,q3,_⟩:=iF id o h1
  rw[h3] at q1
  cases q1
  obtain⟨p1,D,p2,p3⟩:=q3 h2
  exact⟨jd,p1,D,p2,by rw[p3];exact h4⟩
 refine⟨Ml,lo,rfl,⟨fun id o h=>?_,fun id h=>?_,fun i j oi oj Ci Cj b j0 h1 h2 h3 h4 h5 h6 h7 h8=>?_,fun b hb=>⟨fun hf=>hf.2 (aD b hb),(ok.own b ((aD b hb).own ho)).2⟩,fun b hb=>qh ok ho (ok.GF b hb),fun b hb=>hb.1⟩,aD,a3 Ml _ 0 lo ht hκbox,rfl⟩
 ·obtain⟨jd,C,q1,q2,_⟩:=iF id o h
  exact⟨C,q1,q2⟩
 ·have h:DR (sK l (fk (l.flatMap AX.cells) d vR).1 0).2 (fk (l.flatMap AX.cells) d vR).2 id=none:=h
  unfold DR at h
  show κX M bs _ id=none
  unfold κX
  cases hb:Nat.ble vR id with
  |true=>
   rw[hb] at h
   have h:(fk (l.flatMap AX.cells) d vR).2[id-vR]? =none:=h
   rw[List.getElem?_eq_none_iff,←k1] at h
   rw[List.getElem?_eq_none h]
   rfl
  |false=>
   rw[hb] at h
   have h:(sK l (fk (l.flatMap AX.cells) d vR).1 0).2[id]? =none:=h
   rw[List.getElem?_eq_none_iff,←u9.length] at h
   rw[List.getElem?_eq_none h]
   rfl
 ·obtain⟨ji,Ci',p1,_,p3,p4⟩:=iF i oi h1
  obtain⟨jj,Cj',q1,_,q3,q4⟩:=iF j oj h2
  rw[h5] at p1;cases p1
  rw[h6] at q1;cases q1
  obtain⟨p5,Di,p6,p7⟩:=p3 h3
  obtain⟨q5,Dj,q6,q7⟩:=q3 h4
  obtain⟨oi',r1,r2⟩:=ho ji p5
  obtain⟨oj',r3,r4⟩:=ho jj q5
  refine ok.disj ji jj oi' oj' Di Dj b (fun e=>?_) r1 r3 r2 r4 p6 q6 (by rw[p7];exact h7) (by rw[q7];exact h8)
  subst e
  rw[←fJ] at dd
  obtain⟨n1,n2,n3⟩:=List.nodup_append.1 dd
  rcases p4 with⟨p8,p9⟩|⟨p8,io,p9,ql⟩<;>rcases q4 with⟨q8,q9⟩|⟨q8,io',q9,HH⟩
  ·have:=(List.getElem?_inj (List.getElem?_eq_some_iff.1 p9).1 n2).1 (p9.trans q9.symm)
   have e1:=Nat.le_of_ble_eq_true p8
   have e2:=Nat.le_of_ble_eq_true q8
   exact j0 (by omega)
  ·rw[h4] at HH
   subst HH
   exact n3 _ (u6 q9) _ (List.mem_of_getElem? p9) rfl
  ·rw[h3] at ql
   subst ql
   exact n3 _ (u6 p9) _ (List.mem_of_getElem? q9) rfl
  ·rw[h3] at ql
   rw[h4] at HH
   subst ql
   subst HH
   exact j0 (OH n1 p9 q9)
theorem sQ {n:Nat}:∀{ids:List Nat} {h:Hp},qJ h (mo ids) n=if n∈ids then some .gone else h n
 |[],_=>by simp[mo,qJ]
 |id::ids,h=>by
  show qJ (yG h id .gone) (mo ids) n=_
  rw[sQ (ids:=ids)]
  by_cases e:n=id
  ·subst e;simp[yH]
  ·rw[yJ _ _ e];simp[e]
def zB.overX (M L:zB)(ak:List Nat):zB:={κ:=M.κ,F:=fun b=>M.F b∨L.G b,G:=L.G,h:=qJ M.h (mo ak),H:=L.H}
theorem zB.overX_ok {M Ml L:zB}{ak:List Nat}(ok:Ok M)(gk:Ok L)(lo:oK M ak Ml)(ho:lM M ak)(hand:∀b,qR Ml b→je M ak b)(g:gW Ml L):
  Ok (M.overX L ak)∧yT M (M.overX L ak)∧(∀b,qR (M.overX L ak) b→qR M b∧¬je M ak b):=by
 have cR:∀b,b<M.H.size→¬je M ak b→L.H[b]? =M.H[b]? :=fun b hb hn=>by rw[g.same b (by rw[lo.F];exact⟨hb,hn⟩),lo.H]
 have dM:M.H.size≤L.H.size:=by have:=g.size;rw[lo.H] at this;exact this
 have hG:∀b,L.G b→b<M.H.size→M.G b∨je M ak b:=fun b hb hs=>by
  rcases g.Gb b hb (by rw[lo.H];exact hs) with h|h
  ·rw[lo.G] at h;exact .inl h
  ·exact .inr (hand b h)
 have YS:∀b,M.F b→L.H[b]? =M.H[b]? :=fun b h=>cR b (qh ok ho h).1 (qh ok ho h).2
 have x:yK M (M.overX L ak):=⟨fun id C h=>⟨C,h,C.le_refl⟩,fun b h=>.inl h,fun b h=>g.G b (by rw[lo.G];exact h),fun b h=>YS b h,fun b h=>YS b (ok.GF b h),fun b h=>by
  have:=g.bsz b (by rw[lo.H];exact h)
  rw[lo.H] at this
  exact this⟩
 have iF:∀id o,(M.overX L ak).h id=some o→o.owned=true→id∉ak∧M.h id=some o:=fun id o h fI=>by
  have h:qJ M.h (mo ak) id=some o:=h
  rw[sQ] at h
  by_cases hm:id∈ak
  ·rw[if_pos hm] at h;cases h;cases fI
  ·rw[if_neg hm] at h;exact⟨hm,h⟩
 have DY:∀id o C,id∉ak→M.h id=some o→o.owned=true→M.κ id=some C→∀b∈C.fp,¬je M ak b:=fun id o C hm h fI hC b hb ⟨jd,hj,D,hD,Ol⟩=>by
  obtain⟨q,q1,q2⟩:=ho jd hj
  exact ok.disj id jd o q C D b (fun e=>hm (by rw[e];exact hj)) h q1 fI q2 hC hD hb Ol
 have aD:∀b,qR (M.overX L ak) b→qR M b∧¬je M ak b:=fun b ⟨id,o,C,h1,h2,h3,h4⟩=>by
  obtain⟨k1,k2⟩:=iF id o h1 h2
  exact⟨⟨id,o,C,k2,h2,h3,h4⟩,DY id o C k1 k2 h2 h3 b h4⟩
 refine⟨⟨fun id o h=>?_,fun id h=>?_,fun i j oi oj Ci Cj b j0 h1 h2 h3 h4 h5 h6 h7 h8=>?_,fun b h=>⟨fun hf=>?_,?_⟩,fun b h=>.inr h,fun b h=>?_⟩,⟨x,dM,fun b hb hn=>cR b hb fun hh=>hn (hh.own ho),fun b h _=>(aD b h).1,fun b h hs=>?_,fun b h hs=>?_⟩,aD⟩
 ·have h:qJ M.h (mo ak) id=some o:=h
  rw[sQ] at h
  by_cases hm:id∈ak
  ·rw[if_pos hm] at h
   cases h
   obtain⟨q,q1,q2⟩:=ho id hm
   obtain⟨C,hC,_⟩:=ok.obj id q q1
   exact⟨C,hC,trivial⟩
  ·rw[if_neg hm] at h
   obtain⟨C,hC,hO⟩:=ok.obj id o h
   exact⟨C,hC,hO.ext x fun fI b hb=>cR b (ok.own b ⟨id,o,C,h,fI,hC,hb⟩).2 (DY id o C hm h fI hC b hb)⟩
 ·have h:qJ M.h (mo ak) id=none:=h
  rw[sQ] at h
  by_cases hm:id∈ak
  ·rw[if_pos hm] at h;cases h
  ·rw[if_neg hm] at h;exact ok.non id h
 ·exact ok.disj i j oi oj Ci Cj b j0 (iF i oi h1 h3).2 (iF j oj h2 h4).2 h3 h4 h5 h6 h7 h8
 ·obtain⟨k1,k2⟩:=aD b h
  have:=ok.own b k1
  rcases hf with hf|hf
  ·exact this.1 hf
  ·rcases hG b hf this.2 with h|h
   ·exact this.1 (ok.GF b h)
   ·exact k2 h
 ·have h1:=(ok.own b (aD b h).1).2
  show b<L.H.size
  omega
 ·show b<L.H.size
  rcases h with h|h
  ·have:=ok.Flt b h;omega
  ·exact gk.Flt b (gk.GF b h)
 ·rcases hG b h hs with h|h
  ·exact .inl h
  ·exact .inr (h.own ho)
 ·rcases h with h|h
  ·exact .inl h
  ·rcases hG b h hs with h|h
   ·exact .inl (ok.GF b h)
   ·exact .inr (h.own ho)
def zS.bare (C:zS):zS:={C with ver:=C.ver+1,rows:=[]}
def zB.revive (M:zB)(id:Nat)(C:zS)(cs:List zG):zB:={M with κ:=κset M.κ id C.bare,h:=yG M.h id (.box true cs)}
theorem zB.revive_ok {M:zB}(ok:Ok M){id:Nat}{C:zS}{B:Nat}{vals:Array Value}{e:TypeId}{cs:List zG}(hC:M.κ id=some C)(hB:C.blk=some B)(hH:M.H[B]? =some (.cells vals e (0,0)))(hc:zP (zW M) cs vals.toList)
  (h1:¬qR M B) (h2:¬M.F B):Ok (M.revive id C cs)∧yK M (M.revive id C cs)∧(∀b,qR (M.revive id C cs) b→qR M b∨b=B):=by
 have hκ:(M.revive id C cs).κ id=some C.bare:=κset_same _ _ _
 have x:yK M (M.revive id C cs):=⟨fun jd D h=>by
  by_cases e':jd=id
  ·subst e'
   rw[hC] at h;cases h
   exact⟨_,hκ,rfl,rfl,rfl,Nat.le_succ _,fun h=>absurd h (by simp[zS.bare])⟩
  ·exact⟨D,by show κset M.κ id _ jd=_;rw[κset_ne _ _ e'];exact h,D.le_refl⟩,fun _ h=>h,fun _ h=>h,fun _ _=>rfl,fun _ _=>rfl,fun _ _=>rfl⟩
 have kI:C.bare.fp=[B]:=by simp[zS.fp,zS.bare,hB]
 have pR:(M.revive id C cs).h id=some (.box true cs):=yH _ _ _
 refine⟨Ok.build ok x (fun jd=>jd=id) (fun jd h=>yJ _ _ h) (fun jd h=>κset_ne _ _ h) (fun _ _ _ _ _ _ _ _ _=>rfl) (fun jd o' D k1 k2 k3 k4 b bB=>(ok.own b ⟨jd,o',D,k2,k3,k4,bB⟩).1) (Nat.le_refl _)
  (fun jd o' e' h=>?_) (fun jd e' h=>?_) (fun jd o' D b e' k1 k2 k3 k4=>?_) ok.GF ok.Flt,x,fun b bB=>?_⟩
 ·subst e'
  rw[pR] at h
  cases h
  exact⟨_,hκ,B,vals,e,hB,rfl,hH,hc.mono fun _ _ h=>h.ext x,fun h=>by cases h⟩
 ·subst e'
  rw[pR] at h;cases h
 ·subst e'
  rw[hκ] at k3
  cases k3
  rw[kI,List.mem_singleton] at k4
  subst k4
  refine⟨fun j oj Cj hj q1 q2 q3 q4=>h1 ⟨j,oj,Cj,?_,q2,?_,q4⟩,h2,(Array.getElem?_eq_some_iff.1 hH).1⟩
  ·rw[←q1];exact(yJ _ _ hj).symm
  ·rw[←q3];exact(κset_ne _ _ hj).symm
 ·obtain⟨jd,o',D,k1,k2,k3,k4⟩:=bB
  by_cases e':jd=id
  ·subst e'
   rw[hκ] at k3
   cases k3
   rw[kI,List.mem_singleton] at k4
   exact .inr k4
  ·exact .inl ⟨jd,o',D,by rw[←k1];exact(yJ _ _ e').symm,k2,by rw[←k3];exact(κset_ne _ _ e').symm,k4⟩
structure YT (M:zB) (id:Nat) (cs:List zG) (B:Nat):Prop where
 at':∃C,M.κ id=some C∧C.blk=some B
 rep:∃vals e,M.H[B]? =some (.cells vals e (0,0))∧zP (zW M) cs vals.toList
 own:¬qR M B
 F:¬M.F B
def mr (R:Nat→List zG→Nat→Prop):List Nat→List (List zG)→List Nat→Prop
 |[],[],[]=>True
 |a::l,b::m,c::n=>R a b c∧mr R l m n
 |_,_,_=>False
theorem mr.mono {R S:Nat→List zG→Nat→Prop}:∀{l:List Nat} {m:List (List zG)} {n:List Nat},(∀a b c,c∈n→R a b c→S a b c)→mr R l m n→mr S l m n
 |[],[],[],_,_=>trivial
 |_::_,_::_,_::_,h,k=>⟨h _ _ _ (List.mem_cons_self ..) k.1,mr.mono (fun a b c hc=>h a b c (List.mem_cons_of_mem _ hc)) k.2⟩
 |[],[],_::_,_,k=>k.elim
 |[],_::_,_,_,k=>k.elim
 |_::_,[],_,_,k=>k.elim
 |_::_,_::_,[],_,k=>k.elim
theorem YU:∀{ids:List Nat} {css:List (List zG)} {Bs:List Nat} {M:zB},Ok M→mr (YT M) ids css Bs→Bs.Nodup→
  ∃M':zB,M'.H=M.H∧M'.G=M.G∧M'.F=M.F∧M'.h=qJ M.h (yu ids css)∧Ok M'∧yK M M'∧(∀b,qR M' b→qR M b∨b∈Bs)
 |[],[],[],M,ok,_,_=>⟨M,rfl,rfl,rfl,rfl,ok,.refl M,fun _ h=>.inl h⟩
 |id::ids,cs::css,B::Bs,M,ok,h,hn=>by
  obtain⟨C,hC,hB⟩:=h.1.at'
  obtain⟨vals,e,hH,hc⟩:=h.1.rep
  obtain⟨k1,k2,k3⟩:=zB.revive_ok ok hC hB hH hc h.1.own h.1.F
  obtain⟨n1,n2⟩:=List.nodup_cons.1 hn
  obtain ⟨M', a1, a2, a3, a4, a5, a6, a7⟩ := YU (M := M.revive id C cs) k1 (mr.mono (fun a b c hcB hb=>by
   refine⟨?_,?_,fun ho=>?_,hb.F⟩
   ·obtain⟨D,q1,q2⟩:=hb.at'
    obtain⟨D',q3,le⟩:=k2.κ _ _ q1
    exact⟨D',q3,le.blk.trans q2⟩
   ·obtain⟨vals,e,q1,q2⟩:=hb.rep
    exact⟨vals,e,q1,q2.mono fun _ _ h=>h.ext k2⟩
   ·rcases k3 _ ho with h|h
    ·exact hb.own h
    ·subst h;exact n1 hcB) h.2) n2
  exact⟨M',a1,a2,a3,a4,a5,yK.trans (M:=M) (M':=M.revive id C cs) (Nat.le_refl _) k2 a6,fun b hb=>by
   rcases a7 b hb with h|h
   ·exact(k3 b h).imp (fun h=>h) fun h=>by rw[h];exact List.mem_cons_self ..
   ·exact .inr (List.mem_cons_of_mem _ h)⟩
 |[],[],_::_,_,_,h,_=>h.elim
 |[],_::_,_,_,_,h,_=>h.elim
 |_::_,[],_,_,_,h,_=>h.elim
 |_::_,_::_,[],_,_,h,_=>h.elim
theorem YV:∀{ids:List Nat} {css:List (List zG)} {h h':Hp},ids.length=css.length→(∀n,n∉ids→h n=h' n)→qJ h (yu ids css)=qJ h' (yu ids css)
 |[],[],h,h',_,e=>funext fun n=>e n (by simp)
 |id::ids,cs::css,h,h',hl,e=>YV (ids:=ids) (css:=css) (by simpa using hl) fun n hn=>by
   by_cases k:n=id
   ·subst k;rw[yH,yH]
   ·rw[yJ _ _ k,yJ _ _ k];exact e n (by simp[k,hn])
 |[],_::_,_,_,hl,_=>by simp at hl
 |_::_,[],_,_,hl,_=>by simp at hl
theorem yXd {h0:Hp}{s:AX}{a a':zD}{v:Value}{u:zZ}{M:zB}(ok:Ok M)(hf:wN h0 M.h)(hv:zU M a v)(h:sN h0 s a=some (a',u)):
  ∃L:zB,L.H=M.H∧L.h=qJ M.h u∧Ok L∧yT M L∧zU L a' v∧wN h0 L.h:=by
 unfold sN at h
 split at h
 ·rename_i p x
  split at h
  ·rename_i y u1 e
   cases h
   obtain⟨L,h1,h2,h3,h4,h5,h6⟩:=sF (cs:=[x]) (vs:=[v]) ok hf ⟨hv,trivial⟩ e
   exact⟨L,h1,h2,h3,h4,h5.1,h6⟩
  ·cases h
 ·rename_i l xs
  split at h
  ·rename_i ys u1 e
   cases h
   obtain⟨vs,rfl,hx⟩:=hv
   obtain⟨L,h1,h2,h3,h4,h5,h6⟩:=sF ok hf hx e
   exact⟨L,h1,h2,h3,h4,⟨vs,rfl,h5⟩,h6⟩
  ·cases h
 ·cases h
  exact⟨M,rfl,rfl,ok,.refl M,hv,hf⟩
theorem YW {h0:Hp}:∀{l:List AX} {as ez:List zD} {vs:List Value} {u:zZ} {M:zB},Ok M→wN h0 M.h→zP (zU M) as vs→oI h0 l as=some (ez,u)→
  ∃L:zB,L.H=M.H∧L.h=qJ M.h u∧Ok L∧yT M L∧zP (zU L) ez vs∧wN h0 L.h
 |s::l,a::as,ez,v::vs,u,M,ok,hf,hv,h=>by
  unfold oI at h
  split at h
  ·rename_i a1 u1 On om e1 e2
   cases h
   obtain⟨M1,h1,h2,h3,h4,h5,h6⟩:=yXd ok hf hv.1 e1
   obtain⟨M2,k1,k2,k3,k4,k5,k6⟩:=YW h3 h6 (sG.ext h4.ext hv.2) e2
   exact⟨M2,k1.trans h1,by rw[k2,h2,iZ],k3,h4.trans k4,⟨h5.ext k4.ext,k5⟩,k6⟩
  ·cases h
 |[],as,ez,vs,u,M,ok,hf,hv,h=>by
  cases as<;>cases h<;>exact⟨M,rfl,rfl,ok,.refl M,hv,hf⟩
 |s::l,[],ez,vs,u,M,ok,hf,hv,h=>by cases h;exact⟨M,rfl,rfl,ok,.refl M,hv,hf⟩
 |_::_,_::_,_,[],_,_,_,_,hv,_=>hv.elim
def kh (M L:zB)(id jd:Nat):Prop:=∃C D B,M.κ id=some C∧C.blk=some B∧L.κ jd=some D∧D.blk=some B
theorem OJ {M L:zB}:∀{ls:List (Bool×List XC)} {is js out:List Nat} {us:List Value} {cs:List zG} {bs:List (Bool×Nat)},gX M.h ls is=some (cs,bs)→DS ls js=some out→
  zP (fun id u=>∃C B,M.κ id=some C∧C.blk=some B∧u=.pointer (some ⟨B,0,none⟩)) is us→zP (fun id u=>∃C B,L.κ id=some C∧C.blk=some B∧u=.pointer (some ⟨B,0,none⟩)) js us→zP (kh M L) (yZ bs) out
 |[],[],[],out,us,cs,bs,h,k,_,_=>by cases h;cases k;exact trivial
 |(io,l)::ls,i::is,j::js,out,u::us,cs,bs,h,k,p,q=>by
  unfold gX at h
  split at h
  ·rename_i cells rest uY h1 h2
   obtain⟨_,h⟩:=vE h
   cases h
   unfold DS at k
   split at k
   ·rename_i o ho
    cases k
    have ih:=OJ h2 ho p.2 q.2
    cases io with
    |false=>exact ih
    |true=>
     obtain⟨C,B,k1,k2,k3⟩:=p.1
     obtain⟨D,B',k4,k5,k6⟩:=q.1
     rw[k3] at k6
     cases k6
     exact⟨⟨C,D,B,k1,k2,k4,k5⟩,ih⟩
   ·cases k
  ·cases h
 |[],_::_,_,_,_,_,_,h,_,_,_=>by cases h
 |_::_,[],_,_,_,_,_,h,_,_,_=>by cases h
 |[],[],_::_,_,_,_,_,_,k,_,_=>by cases k
 |_::_,_::_,[],_,_,_,_,_,k,_,_=>by cases k
 |_::_,_::_,_::_,_,[],_,_,_,_,p,_=>p.elim
theorem YX {M L:zB}:∀{bs:List (Bool×Nat)} {n:Nat},(∀q∈bs,q.1=true)→(∀i q,bs[i]? =some q→kh M L q.2 (n+i))→zP (kh M L) (yZ bs) (kf n bs.length)
 |[],n,_,_=>trivial
 |(true,id)::bs,n,h,k=>⟨k 0 _ rfl,YX (fun q hq=>h q (List.mem_cons_of_mem _ hq)) fun i q hq=>by
   have:=k (i+1) q hq
   rwa [show n+(i+1)=n+1+i by omega] at this⟩
 |(false,id)::bs,n,h,k=>by cases h _ (List.mem_cons_self ..)
theorem YY {h:Hp}:∀{ls:List (Bool×List XC)} {ids:List Nat} {cs:List zG} {bs:List (Bool×Nat)},gX h ls ids=some (cs,bs)→bs.map (·.1)=ls.map (·.1)
 |[],[],_,_,e=>by cases e;rfl
 |(io,l)::ls,id::ids,cs,bs,e=>by
  unfold gX at e
  split at e
  ·rename_i cells rest uY h1 h2
   obtain⟨_,e⟩:=vE e
   cases e
   simp[YY h2]
  ·cases e
 |[],_::_,_,_,e=>by cases e
 |_::_,[],_,_,e=>by cases e
theorem vH7 {M L:zB}{s:AX}{a b:zD}{v:Value}{cs:List zG}{bs:List (Bool×Nat)}{out:List Nat}(h:s.get M.h a=some (cs,bs)){n:Nat}(k:s.io n b=some out)(p:zU M a v)(q:s.looks=true→zU L b v)(hk:s.isChn=true→∀i q,bs[i]? =some q→kh M L q.2 (n+i)):zP (kh M L) (yZ bs) out:=by
 unfold AX.get at h
 split at h
 ·cases h;cases k;exact trivial
 ·obtain⟨_,h'⟩:=vE h
  cases h';cases k;exact trivial
 ·rename_i io l id
  unfold AX.io at k
  split at k
  ·rename_i e;cases e
  ·rename_i e;cases e
  ·rename_i io' l' jd e
   cases e
   exact OJ (us:=[v]) h k ⟨p,trivial⟩ ⟨q rfl,trivial⟩
  ·rename_i e;cases e
  ·rename_i e;cases e
  ·cases k
 ·rename_i f bq g ids
  obtain⟨hg,h'⟩:=vE h
  unfold AX.io at k
  split at k
  ·rename_i e;cases e
  ·rename_i e;cases e
  ·rename_i e;cases e
  ·rename_i f' YZ g' js e
   cases e
   obtain⟨cv,rfl,hc⟩:=p
   obtain⟨cv',e',j3⟩:=q rfl
   cases e'
   exact OJ h' k hc j3
  ·rename_i e;cases e
  ·cases k
 ·rename_i ls id
  split at h
  ·rename_i ids iu
   cases k
   have h1:=DW h
   have h2:ls.length=bs.length:=by rw[h1];simp[yq]
   rw[h2]
   exact YX (fun q hq=>by
    have:q.1∈bs.map (·.1):=List.mem_map_of_mem hq
    rw[YY h] at this
    exact(by simpa[yq] using this:_∧_).2) (hk rfl)
  ·cases h
 ·cases h
theorem Y0 {M L:zB}:∀{l:List AX} {as:List zD} {vs:List Value} {t:Nat→zD} {n:Nat} {cs:List zG} {bs:List (Bool×Nat)} {out:List Nat} {m:Nat},iD M.h l as=some (cs,bs)→HD l t n m=some out→zP (zU M) as vs→(∀i (h:i<vs.length) s,l[i]? =some s→s.looks=true→zU L (t (n+i)) vs[i])→(l.any AX.isChn=true→∀i q,bs[i]? =some q→kh M L q.2 (m+i))→
  zP (kh M L) (yZ bs) out
 |[],[],[],t,n,cs,bs,out,m,h,k,_,_,_=>by cases h;cases k;exact trivial
 |s::l,a::as,v::vs,t,n,cs,bs,out,m,h,k,p,q,hk=>by
  unfold iD at h
  split at h
  ·rename_i c1 b1 c2 b2 h1 h2
   cases h
   unfold HD at k
   split at k
   ·rename_i o1 o2 k1 k2
    cases k
    have e:∀b1 b2:List (Bool×Nat),yZ (b1++b2)=yZ b1++yZ b2:=fun b1 b2=>by
     induction b1 with
     |nil=>rfl
     |cons x b1 ih=>obtain⟨io,y⟩:=x;cases io<;>simp[yZ,ih]
    rw[e]
    have hnb:=yY2 h1
    refine(vH7 h1 k1 p.1 (q 0 (by simp) s rfl) fun hc i q hq=>hk (by simp[hc]) i q (by rw[List.getElem?_append_left (List.getElem?_eq_some_iff.1 hq).1];exact hq)).append (Y0 h2 k2 p.2 (fun i hi s' hs hl=>?_) fun hc i q hq=>?_)
    rotate_left
    ·have:=hk (by simp only[List.any_cons,hc,Bool.or_true]) (b1.length+i) q (by rw[List.getElem?_append_right (by omega)];rw[show b1.length+i-b1.length=i by omega];exact hq)
     rw[hnb,←Nat.add_assoc] at this
     exact this
    have:=q (i+1) (by simpa using hi) s' (by simpa using hs) hl
    rw[show n+(i+1)=n+1+i by omega] at this
    simpa using this
   ·cases k
  ·cases h
 |[],[],_::_,_,_,_,_,_,_,_,_,p,_,_=>p.elim
 |[],_::_,_,_,_,_,_,_,_,h,_,_,_,_=>by cases h
 |_::_,[],_,_,_,_,_,_,_,h,_,_,_,_=>by cases h
 |_::_,_::_,[],_,_,_,_,_,_,_,_,p,_,_=>p.elim
theorem Y1 {L:zB}(gk:Ok L):∀{os:List (List RC)} {ids:List Nat} {bs:List zG},yt L.h os ids=some bs→bs.length=os.flatten.length∧ids.length=os.length∧
  ∃us:List Value,zP (zW L) bs us∧∀{M:zB} {cs:List zG},M.H=L.H→zP (zW M) cs us→mr (fun id cs B=>(∃cells,L.h id=some (.box true cells))∧(∃C,L.κ id=some C∧C.blk=some B∧C.rows=[])∧∃vals e,M.H[B]? =some (.cells vals e (0,0))∧zP (zW M) cs vals.toList) ids (sM os cs) (ids.map fun id=>((L.κ id).bind zS.blk).getD 0)
 |[],[],bs,h=>by cases h;exact⟨rfl,rfl,[],trivial,fun _ _=>trivial⟩
 |o::os,n::ns,bs,h=>by
  unfold yt at h
  split at h
  ·rename_i cells rest h1 h2
   obtain⟨hl,h⟩:=vE h
   cases h
   have hl:cells.length=o.length:=Nat.eq_of_beq_eq_true hl
   obtain⟨C,hC,B,vals,e,q1,q2,q3,q4,_⟩:=gk.obj n _ h1
   obtain⟨k1,k2,us,k3,k4⟩:=Y1 gk h2
   refine⟨by simp[hl,k1],by simp[k2],vals.toList++us,q4.append k3,fun{M cs} hH hc=>⟨⟨⟨cells,h1⟩,⟨C,hC,?_,q2⟩,vals,e,?_,?_⟩,?_⟩⟩
   ·show C.blk=some (((L.κ n).bind zS.blk).getD 0);rw[hC];show C.blk=some (C.blk.getD 0);rw[q1];rfl
   ·show M.H[((L.κ n).bind zS.blk).getD 0]? =_;rw[hC,hH];show L.H[C.blk.getD 0]? =_;rw[q1];exact q3
   ·have h1:=zP.take o.length hc
    have Om:=q4.length
    rw[show(vals.toList++us).take o.length=vals.toList from by rw[List.take_append_of_le_length (by omega),List.take_of_length_le (by omega)]] at h1
    exact h1
   ·have h1:=zP.drop o.length hc
    have Om:=q4.length
    rw[show(vals.toList++us).drop o.length=us from by rw[show o.length=vals.toList.length by omega,List.drop_left]] at h1
    exact k4 hH h1
  ·cases h
 |[],_::_,_,h=>by cases h
 |_::_,[],_,h=>by cases h
theorem yYj {h0:Hp}{r:RC}{c:zG}{d:r.den}(h:nc h0 r c=some d):∀id∈vJ [r] [c],∀own cells,h0 id≠some (.box own cells):=by
  unfold nc at h
  split at h
  all_goals (try (intro id aa;simp[vJ] at aa;done))
  all_goals first
    |(cases h;done)
    | (intro pU aa own cells hb
       have:=List.mem_singleton.1 aa
       subst this
       rw[hb] at h
       cases h)
    |(cases h;intro pU aa;simp[vJ] at aa)
theorem Y2 {L:Hp}:∀{l:List RC} {cs:List zG} {d:RL l},iC L l cs=some d→∀id∈vJ l cs,∀own cells,L id≠some (.box own cells)
 |[],[],_,_,id,aa=>by cases aa
 |r::l,c::cs,d,h,id,aa=>by
  unfold iC at h
  split at h
  ·rename_i x xs e1 e2
   rw[Hz] at aa
   rcases List.mem_append.1 aa with aa|aa
   ·exact yYj e1 id aa
   ·exact Y2 e2 id aa
  ·cases h
 |[],_::_,_,h,_,_=>by cases h
 |_::_,[],_,h,_,_=>by cases h
theorem OK:∀(a b:List (Bool×Nat)),yZ (a++b)=yZ a++yZ b
 |[],_=>rfl
 |(true,_)::a,b=>by simp[yZ,OK a b]
 |(false,_)::a,b=>by simp[yZ,OK a b]
theorem DZ {h:Hp}:∀{ls:List (Bool×List XC)} {is:List Nat} {cs:List zG} {bs:List (Bool×Nat)},gX h ls is=some (cs,bs)→∀id∈yZ bs,∃o,h id=some o∧o.owned=true
 |[],[],_,_,e=>by cases e;intro id aa;cases aa
 |(io,l)::ls,i::is,cs,bs,e=>by
  unfold gX at e
  split at e
  ·rename_i cells rest uY h1 h2
   obtain⟨_,e⟩:=vE e
   cases e
   intro id aa
   cases io with
   |false=>exact DZ h2 id aa
   |true=>
    rcases List.mem_cons.1 aa with rfl|aa
    ·unfold yr at h1
     split at h1
     ·rename_i c hc
      exact⟨_,hc,rfl⟩
     ·rename_i e' _;cases e'
     ·rename_i e' _;cases e'
     ·cases h1
    ·exact DZ h2 id aa
  ·cases e
 |[],_::_,_,_,e=>by cases e
 |_::_,[],_,_,e=>by cases e
theorem vE5 {h:Hp}{s:AX}{a:zD}{cs:List zG}{bs:List (Bool×Nat)}(e:s.get h a=some (cs,bs)):∀id∈yZ bs,∃o,h id=some o∧o.owned=true:=by
 unfold AX.get at e
 split at e
 ·cases e;intro id aa;cases aa
 ·obtain⟨_,e⟩:=vE e
  cases e;intro id aa;cases aa
 ·exact DZ e
 ·obtain⟨_,e⟩:=vE e
  exact DZ e
 ·split at e
  ·exact DZ e
  ·cases e
 ·cases e
theorem Y3 {h:Hp}:∀{l:List AX} {as:List zD} {cs:List zG} {bs:List (Bool×Nat)},iD h l as=some (cs,bs)→l.length=as.length∧∀id∈yZ bs,∃o,h id=some o∧o.owned=true
 |[],[],_,_,e=>by cases e;exact⟨rfl,fun id aa=>by cases aa⟩
 |s::l,a::as,cs,bs,e=>by
  unfold iD at e
  split at e
  ·rename_i c1 b1 c2 b2 h1 h2
   cases e
   obtain⟨k1,k2⟩:=Y3 h2
   refine⟨by simp[k1],fun id aa=>?_⟩
   rw[OK] at aa
   rcases List.mem_append.1 aa with aa|aa
   ·exact vE5 h1 id aa
   ·exact k2 id aa
  ·cases e
 |[],_::_,_,_,e=>by cases e
 |_::_,[],_,_,e=>by cases e
theorem Y4 {h:Hp}:∀{l:List XC} {cs:List zG} {d:XL l},ng h l cs=some d→∀id∈wO l cs,∃o,h id=some o∧o.owned=true
 |[],[],_,_=>fun id aa=>by cases aa
 |x::l,c::cs,d,e=>by
  unfold ng at e
  split at e
  ·rename_i y ys h1 h2
   cases e
   have ih:=Y4 h2
   unfold DO at h1
   split at h1
   ·exact ih
   ·rename_i t id
    intro jd aa
    rcases List.mem_cons.1 aa with rfl|aa
    ·split at h1
     ·rename_i s xs hs
      exact⟨_,hs,rfl⟩
     ·cases h1
    ·exact ih jd aa
   ·rename_i id
    intro jd aa
    rcases List.mem_cons.1 aa with rfl|aa
    ·split at h1
     ·rename_i s xs hs
      exact⟨_,hs,rfl⟩
     ·cases h1
    ·exact ih jd aa
   ·rename_i id
    intro jd aa
    rcases List.mem_cons.1 aa with rfl|aa
    ·split at h1
     ·rename_i xs hs
      exact⟨_,hs,rfl⟩
     ·cases h1
    ·exact ih jd aa
   ·exact ih
   ·cases h1
  ·cases e
 |[],_::_,_,e=>by cases e
 |_::_,[],_,e=>by cases e
theorem Y5 {a b:List Nat}(h:OE a b=true):∀id∈b,id∉a:=fun id hb ha=>by
 have h:=List.all_eq_true.1 h id ha
 have:b.any (Nat.beq id)=true:=List.any_eq_true.2 ⟨id,hb,by simp⟩
 rw[this] at h;cases h
theorem Y6:∀(os:List (List RC)) (cs:List zG),(sM os cs).length=os.length
 |[],_=>rfl
 |_::os,cs=>by simp[sM,Y6 os]
theorem Y7 {M L:zB}{P:zB→Nat→Prop}{R:Nat→List zG→Nat→Prop}:∀{ids js:List Nat} {css:List (List zG)} {Bs:List Nat},zP (kh M L) ids js→mr R js css Bs→mr (fun id cs B=>∃jd,kh M L id jd∧R jd cs B) ids css Bs
 |[],[],[],[],_,_=>trivial
 |_::_,_::_,_::_,_::_,h,k=>⟨⟨_,h.1,k.1⟩,Y7 (P:=P) h.2 k.2⟩
 |[],[],[],_::_,_,k=>k.elim
 |[],[],_::_,_,_,k=>by cases k
 |[],_::_,_,_,h,_=>h.elim
 |_::_,[],_,_,h,_=>h.elim
 |_::_,_::_,[],_,_,k=>k.elim
 |_::_,_::_,_::_,[],_,k=>k.elim
theorem zB.gone_ok {M:zB}(ok:Ok M){nm:Nat}(aL:M.h nm=none)(C:zS):
  Ok (M.add nm .gone C)∧yK M (M.add nm .gone C)∧(∀b,qR (M.add nm .gone C) b→qR M b):=by
 have x:yK M (M.add nm .gone C):=⟨fun id D h=>by
  have bc:id≠nm:=fun e=>by rw[e,ok.non nm aL] at h;cases h
  exact⟨D,by show κset M.κ nm _ id=_;rw[κset_ne _ _ bc];exact h,D.le_refl⟩,fun _ h=>h,fun _ h=>h,fun _ _=>rfl,fun _ _=>rfl,fun _ _=>rfl⟩
 have at':∀o,(M.add nm .gone C).h nm=some o→o=.gone:=fun o h=>by
  have e1:(M.add nm .gone C).h nm=some .gone:=yH _ _ _
  rw[e1] at h;cases h;rfl
 refine⟨Ok.build ok x (fun id=>id=nm) (fun id h=>yJ _ _ h) (fun id h=>κset_ne _ _ h) (fun _ _ _ _ _ _ _ _ _=>rfl) (fun id o' D h1 h2 h3 h4 b bB=>(ok.own b ⟨id,o',D,h2,h3,h4,bB⟩).1) (Nat.le_refl _)
  (fun id o' e h=>?_) (fun id e h=>?_) (fun id o' D b e h1 h2 h3 h4=>?_) ok.GF ok.Flt,x,fun b bB=>?_⟩
 ·subst e
  rw[at' o' h]
  exact⟨_,κset_same _ _ _,trivial⟩
 ·subst e
  have e1:(M.add id .gone C).h id=some .gone:=yH _ _ _
  rw[e1] at h;cases h
 ·subst e
  rw[at' o' h1] at h2;cases h2
 ·obtain⟨id,o',D,h1,h2,h3,h4⟩:=bB
  by_cases e:id=nm
  ·subst e
   rw[at' o' h1] at h2;cases h2
  ·exact⟨id,o',D,by rw[←h1];exact(yJ _ _ e).symm,h2,by rw[←h3];exact(κset_ne _ _ e).symm,h4⟩
theorem Y8:∀{n nm:Nat} {Bs:List Nat} {M:zB},Ok M→(∀i,i<n→M.h (nm+i)=none)→Bs.length=n→
  ∃M':zB,M'.H=M.H∧M'.G=M.G∧M'.F=M.F∧M'.h=qJ M.h (mo (kf nm n))∧Ok M'∧yK M M'∧(∀b,qR M' b→qR M b)∧zP (fun id B=>∃C,M'.κ id=some C∧C.blk=some B) (kf nm n) Bs
 |0,nm,[],M,ok,_,_=>⟨M,rfl,rfl,rfl,rfl,ok,.refl M,fun _ h=>h,trivial⟩
 |n+1,nm,B::Bs,M,ok,hf,hl=>by
  obtain⟨k1,k2,k3⟩:=zB.gone_ok ok (hf 0 (by omega)) ⟨some B,0,0,0,[]⟩
  rw[Nat.add_zero] at k1 k2 k3
  obtain ⟨M', a1, a2, a3, a4, a5, a6, a7, a8⟩ := Y8 (n := n) (nm := nm + 1) (Bs := Bs) k1 (fun i hi=>by
   have:=hf (i+1) (by omega)
   rw[show nm+1+i=nm+(i+1) by omega,←this]
   exact yJ _ _ (by omega)) (by simpa using hl)
  refine⟨M',a1,a2,a3,a4,a5,yK.trans (M:=M) (M':=M.add nm .gone ⟨some B,0,0,0,[]⟩) (Nat.le_refl _) k2 a6,fun b hb=>k3 b (a7 b hb),?_,a8⟩
  obtain⟨C,h1,h2⟩:=a6.κ nm _ (κset_same _ _ _)
  exact⟨C,h1,h2.blk⟩
 |n+1,_,[],_,_,_,hl=>by cases hl
 |0,_,_::_,_,_,_,hl=>by cases hl
theorem OM {L M:zB}{ids js:List Nat}(hs:zP (kh M L) ids js):∀{l:List (Option Nat)} {cs ds:List zG} {vs:List Value},oH l js cs=true→zP (zW L) cs vs→zP (zW M) ds vs→zP (zW M) (sJ l ids ds) vs
 |[],cs,ds,vs,_,_,hd=>by unfold sJ;exact hd
 |none::l,[],[],[],_,_,_=>trivial
 |none::l,c::cs,d::ds,v::vs,h,hc,hd=>⟨hd.1,OM hs (l:=l) h hc.2 hd.2⟩
 |some j::l,[],[],[],_,_,_=>trivial
 |some j::l,c::cs,d::ds,v::vs,h,hc,hd=>by
  obtain⟨id,rfl,aa,h'⟩:=YP h
  refine⟨?_,OM hs h' hc.2 hd.2⟩
  have hj:=(List.getElem?_eq_some_iff.1 aa).1
  have hi:j<ids.length:=by rw[hs.length];exact hj
  have:=hs.get j hi hj
  rw[(List.getElem?_eq_some_iff.1 aa).2] at this
  obtain⟨C,D,B,q1,q2,q3,q4⟩:=this
  obtain⟨D',B',p1,p2,p3⟩:=hc.1
  rw[q3] at p1;cases p1
  rw[q4] at p2;cases p2
  rw[List.getElem?_eq_getElem hi]
  exact⟨C,B,q1,q2,p3⟩
 |_,[],_::_,[],_,_,hd=>hd.elim
 |_,[],_::_,_::_,_,hc,_=>hc.elim
 |_,_::_,[],[],_,hc,_=>hc.elim
 |_,_::_,[],_::_,_,_,hd=>hd.elim
 |_,[],[],_::_,_,hc,_=>hc.elim
 |_,_::_,_::_,[],_,hc,_=>hc.elim
theorem vLf {h:Hp}{ns:Nat}{cs:List zG}{nw:List Nat}(e:OD h ns cs=some nw):nw.length=ns:=by
 unfold OD at e
 cases h0:Nat.beq ns 0 with
 |true=>rw[h0] at e;cases e;exact(Nat.eq_of_beq_eq_true h0).symm
 |false=>
  rw[h0] at e
  simp only[cond_false] at e
  split at e
  ·exact(OG e).2
  ·cases e
def HI (w:World)(na:Nat)(chn:Bool)(M:zB)(vs:Array Value)(rv:Value)(w':World)(v:zD)(st:St):Prop:=
 ∃M':zB,M'.h=st.h∧M'.H=w'.heap∧Ok M'∧gW M M'∧(chn=true→Hh M M')∧zU M' v rv∧w'.os=w.os∧w'.tape=w.tape∧w'.output=w.output∧(∀t,t<na→zU M' (st.t t) (vs.getD t undef))
theorem Y9 {n:Nat}:∀{l:List RC} {nm:Nat} {d:RL l} {hh:Hp},(∀j,j<l.length→n≠nm+j)→qJ hh (mj nm l d).2 n=hh n
 |[],_,_,_,_=>rfl
 |r::l,nm,d,hh,h=>by
  show qJ hh ((oD nm r d.1).2++(mj (nm+1) l d.2).2) n=_
  rw[iZ,Y9 fun j hj=>by have:=h (j+1) (by simpa using hj);omega,Yt (by have:=h 0 (by simp);omega)]
theorem vAy {M:zB}(ok:Ok M){io:Bool}{id:Nat}{cells:List zG}(h:yr M.h io id=some cells):∃C B,M.κ id=some C∧C.blk=some B:=by
 have h':yi M.h id=some cells:=by
  unfold yr at h
  unfold yi
  split at h
  ·rename_i e;rw[e];exact h
  ·rename_i e;rw[e];exact h
  ·rename_i e;rw[e];exact h
  ·cases h
 obtain⟨C,h1,B,_,_,h2,_⟩:=Yq ok h'
 exact⟨C,B,h1,h2⟩
theorem HJ {M:zB}(ok:Ok M):∀{ls:List (Bool×List XC)} {is:List Nat} {cs:List zG} {bs:List (Bool×Nat)},gX M.h ls is=some (cs,bs)→∀q∈bs,∃C B,M.κ q.2=some C∧C.blk=some B
 |[],[],_,_,e=>by cases e;intro q hq;cases hq
 |(io,l)::ls,i::is,cs,bs,e=>by
  unfold gX at e
  split at e
  ·rename_i cells rest uY h1 h2
   obtain⟨_,e⟩:=vE e
   cases e
   intro q hq
   rcases List.mem_cons.1 hq with rfl|hq
   ·exact vAy ok h1
   ·exact HJ ok h2 q hq
  ·cases e
 |[],_::_,_,_,e=>by cases e
 |_::_,[],_,_,e=>by cases e
theorem Za {M:zB}(ok:Ok M):∀{l:List AX} {as:List zD} {cs:List zG} {bs:List (Bool×Nat)},iD M.h l as=some (cs,bs)→∀q∈bs,∃C B,M.κ q.2=some C∧C.blk=some B
 |[],[],_,_,e=>by cases e;intro q hq;cases hq
 |s::l,a::as,cs,bs,e=>by
  unfold iD at e
  split at e
  ·rename_i c1 b1 c2 b2 h1 h2
   cases e
   intro q hq
   rcases List.mem_append.1 hq with hq|hq
   ·unfold AX.get at h1
    split at h1
    ·cases h1;cases hq
    ·obtain⟨_,h1⟩:=vE h1
     cases h1;cases hq
    ·exact HJ ok h1 q hq
    ·obtain⟨_,h1⟩:=vE h1
     exact HJ ok h1 q hq
    ·split at h1
     ·exact HJ ok h1 q hq
     ·cases h1
    ·cases h1
   ·exact Za ok h2 q hq
  ·cases e
 |[],_::_,_,_,e=>by cases e
 |_::_,[],_,_,e=>by cases e
theorem Zb {L:zB}(ok:Ok L):∀{os:List (List RC)} {ids:List Nat} {bs:List zG},yt L.h os ids=some bs→∀j∈ids,∃cells C B,L.h j=some (.box true cells)∧L.κ j=some C∧C.blk=some B
 |[],[],_,_=>fun j hj=>by cases hj
 |o::os,n::ns,bs,h=>by
  unfold yt at h
  split at h
  ·rename_i cells rest h1 h2
   intro j hj
   rcases List.mem_cons.1 hj with rfl|hj
   ·obtain⟨C,hC,B,vals,e,q1,_⟩:=ok.obj _ _ h1
    exact⟨cells,C,B,h1,hC,q1⟩
   ·exact Zb ok h2 j hj
  ·cases h
 |[],_::_,_,h=>by cases h
 |_::_,[],_,h=>by cases h
theorem Zc {L:zB}(ok:Ok L):∀{js:List Nat},js.Nodup→(∀j∈js,∃cells C B,L.h j=some (.box true cells)∧L.κ j=some C∧C.blk=some B)→(js.map fun id=>((L.κ id).bind zS.blk).getD 0).Nodup
 |[],_,_=>List.nodup_nil
 |a::js,hn,bn=>by
  obtain⟨n1,n2⟩:=List.nodup_cons.1 hn
  refine List.nodup_cons.2 ⟨fun vd=>?_,Zc ok n2 fun j hj=>bn j (List.mem_cons_of_mem _ hj)⟩
  obtain⟨j,hj,qm⟩:=List.mem_map.1 vd
  obtain⟨Zd,C,B,q1,q2,q3⟩:=bn a (List.mem_cons_self ..)
  obtain⟨c2',D,B',q4,q5,q6⟩:=bn j (List.mem_cons_of_mem _ hj)
  have qm:((L.κ j).bind zS.blk).getD 0=((L.κ a).bind zS.blk).getD 0:=qm
  rw[q2,q5] at qm
  have qm:(D.blk.getD 0)=(C.blk.getD 0):=qm
  rw[q3,q6] at qm
  have qm:B'=B:=qm
  subst qm
  exact ok.disj a j _ _ C D B' (fun e=>n1 (by rw[e];exact hj)) q1 q4 rfl rfl q2 q5 (by simp[zS.fp,q3]) (by simp[zS.fp,q6])
theorem Ze {na:Nat}{as:List AX}(iG:qf as na=true){nm n:Nat}{args:List zD}{h:Hp}{u0:zZ}{io rows:List Nat}{d:XD as}(he:uZ as nm n args h=some (u0,io,rows,d))(M:zB)(w:World)(vs:Array Value)(hh:M.h=h)(hH:M.H=w.heap)(ok:Ok M)(hv:zP (zU M) args vs.toList):
  ∃Ml:zB,Ml.h=(iE as d).2∧Ml.H=w.heap∧Ok Ml∧zP (zU Ml) (iE as d).1 vs.toList∧
   ∀rv w' v0 st,HI w na (as.any AX.isChn) Ml vs rv w' v0 st→∀rs os ns dx,sL st as rs os ns v0=some dx→(rs.cells++os.flatten).length+ns≤n→
    ∃Mf,pS M w (DU u0 io rows rs os ns nm dx).2 Mf w'∧zU Mf (DU u0 io rows rs os ns nm dx).1 rv:=by
 unfold uZ at he
 split at he
 ·cases he
 rename_i eh u uT
 split at he
 ·cases he
 rename_i cs bs dg
 split at he
 ·cases he
 rename_i d' hd
 dsimp only at he
 obtain⟨hc,he⟩:=lH he
 cases he
 simp only[Bool.and_eq_true] at hc
 obtain⟨⟨⟨⟨⟨⟨qn,bW⟩,bT⟩,cN⟩,ek⟩,vf⟩,yx⟩:=hc
 subst hh
 obtain⟨M1,a1,a2,a3,a4,a5,a6⟩:=YW ok (wN.refl _) hv uT
 rw[←a2] at hd dg
 obtain⟨Zf,pY⟩:=Y3 dg
 have aK:=Y4 hd
 have dR:lM M1 (yZ bs++wO (as.flatMap AX.cells) cs):=fun id aa=>(List.mem_append.1 aa).elim (pY id) (aK id)
 have ON:=xZ cN
 obtain⟨Ml,lo,b2,b3,b4,b5,b6⟩:=vBr a3 a5 dg hd ON (Y5 ek) (Y5 vf) (Nat.le_of_ble_eq_true bT) yx dR
 generalize fJ:yZ bs++wO (as.flatMap AX.cells) cs=ak at*
 refine⟨Ml,b2,by rw[lo.H,a1];exact hH,b3,b5,fun rv w' v0 st ⟨L0,c1,c2,c3,c4,ck,c5,c6,c7,c8,c9⟩ rs os ns dx hK hn=>?_⟩
 unfold sL at hK
 split at hK
 ·cases hK
 rename_i OO iu
 split at hK
 ·cases hK
 rename_i ccs lJ
 split at hK
 ·cases hK
 rename_i nw hnw
 split at hK
 ·cases hK
 rename_i bcs qo
 obtain⟨D3,HK⟩:=lH hK
 clear hK
 split at HK
 case h_2=>cases HK
 rename_i aM u1 uV
 obtain⟨dd,hK⟩:=lH HK
 clear HK
 rw[Bool.and_eq_true] at dd
 obtain⟨dd,D4⟩:=dd
 have OP:=vLf hnw
 obtain⟨hlen,us,d1,d2⟩:=Yv lJ c5
 rw[←c1] at uV hK qo
 obtain⟨js,mf⟩:∃js,js=OO++nw:=⟨_,rfl⟩
 rw[←mf] at qo D3 D4
 obtain⟨k1,k2,HL,k3,k4⟩:=Y1 c3 qo
 obtain⟨L,e1,e2,e3,e4,e5,e6⟩:=sF c3 (wN.refl _) (d1.append k3) uV
 rw[←e2] at hK
 have g:gW Ml L:=c4.trans e4.grow
 obtain⟨f1,f2,f3⟩:=zB.overX_ok a3 e3 lo dR b4 g
 have cR : zP (kh M1 L0) (yZ bs) OO := Y0 dg iu a5 (fun i hi s hs qi=>by
  have bS:i<vs.size:=by simpa using hi
  have aV:i<na:=by
   have:=List.all_eq_true.1 iG (s,i) (List.mk_mem_zipIdx_iff_getElem?.2 hs)
   simp only[qi,Bool.not_true,Bool.false_or] at this
   exact GU this
  have:=c9 i aV
  rw[Nat.zero_add]
  have e:vs.getD i undef=vs.toList[i]:=by simp[bS]
  rw[←e];exact this) fun ki i q hq=>by
   obtain⟨C,B,p1,p2⟩:=Za a3 dg q (List.mem_of_getElem? hq)
   have hi:i<bs.length:=(List.getElem?_eq_some_iff.1 hq).1
   have hκ:Ml.κ i=some C:=by
    rw[b6]
    unfold κX
    have:Nat.ble vR i=false:=by
     cases h:Nat.ble vR i with
     |false=>rfl
     |true=>have h1:=Nat.le_of_ble_eq_true h;have h2:=Nat.le_of_ble_eq_true bT;omega
    rw[this,hq]
    exact p1
   obtain⟨C',p3,p4⟩:=ck ki i C hκ
   rw[Nat.zero_add]
   exact⟨C,C',B,p1,p2,p3,p4.trans p2⟩
 have nh:∀i,i<n→(M1.overX L ak).h (nm+i)=none:=fun i hi=>by
  have h1:=Oi qn i hi
  have h2:M1.h (nm+i)=none:=by
   rw[a2]
   rcases a6 (nm+i) with h|⟨own,t,xs,h,_⟩|⟨ver,xs,h,_⟩
   ·rw[a2] at h;rw[h];exact h1
   ·rw[h1] at h;cases h
   ·rw[h1] at h;cases h
  show qJ M1.h (mo ak) (nm+i)=none
  rw[sQ,if_neg,h2]
  intro vd
  obtain⟨o,ho,_⟩:=dR _ vd
  rw[h2] at ho;cases ho
 have nf:∀i,i<(rs.cells++os.flatten).length→(M1.overX L ak).h (nm+i)=none:=fun i hi=>nh i (by omega)
 have qp:∀b,qR L b→b<M1.H.size→je M1 ak b:=fun b hb aV=>b4 b (g.own b hb (by rw[lo.H];exact aV))
 have sR:∀b,qR L b→¬(M1.overX L ak).F b:=fun b hb h=>by
  rcases h with h|h
  ·exact(qh a3 dR h).2 (qp b hb (a3.Flt b h))
  ·exact(e3.own b hb).1 (e3.GF b h)
 have sS:∀b,qR L b→¬qR (M1.overX L ak) b:=fun b hb h=>by
  obtain⟨q1,q2⟩:=f3 b h
  exact q2 (qp b hb (a3.own b q1).2)
 obtain ⟨Mc, g1, g2, g3, g4, g5, g6, g7, g8⟩ := Oj e3 f1 ⟨rfl, rfl⟩ nf hK (xZ dd) (sH hK) (fun id aa C hC b hb=>by
  obtain⟨o,ho,fI⟩:=sH hK id aa
  have aD:qR L b:=⟨id,o,C,ho,fI,hC,hb⟩
  exact⟨sS b aD,sR b aD,(e3.own b aD).2⟩)
 obtain ⟨Mg, n1, n2, n3, n4, n5, n6, n7, n8⟩ := Y8 (n := ns) (nm := nm + (rs.cells ++ os.flatten).length) (Bs := nw.map fun id => ((L0.κ id).bind zS.blk).getD 0) g5 (fun i hi=>by
  rw[g4,Y9 (fun j hj=>by omega),Nat.add_assoc]
  exact nh _ (by omega)) (by simp[OP])
 have ni:∀j∈js,∃cells C B,L0.h j=some (.box true cells)∧L0.κ j=some C∧C.blk=some B:=Zb c3 qo
 have Zg:yK M1 Mg:=(f2.ext.trans f2.size g6).trans (by rw[g1];exact f2.size) n6
 have De:zP (kh Mg L0) (yZ bs) OO:=cR.mono fun id jd hq=>by
  obtain⟨C,D,B,q1,q2,q3,q4⟩:=hq
  obtain⟨C',p3,le⟩:=Zg.κ id C q1
  exact⟨C',D,B,p3,le.blk.trans q2,q3,q4⟩
 have OQ:zP (kh Mg L0) (kf (nm+(rs.cells++os.flatten).length) ns) nw:=by
  have Zh:=n8.length
  rw[List.length_map] at Zh
  refine zP.of_get Zh fun i h1 h2=>?_
  obtain⟨C,q1,q2⟩:=n8.get i h1 (by simpa using h2)
  obtain⟨cells,D,B,p1,p2,p3⟩:=ni nw[i] (by rw[mf];exact List.mem_append_right _ (List.getElem_mem _))
  refine⟨C,D,B,q1,?_,p2,p3⟩
  rw[q2,List.getElem_map,p2]
  show some (D.blk.getD 0)=_
  rw[p3];rfl
 have kj:zP (kh Mg L0) (yZ bs++kf (nm+(rs.cells++os.flatten).length) ns) js:=by
  rw[mf];exact De.append OQ
 have qq:zP (kh Mg L) (yZ bs++kf (nm+(rs.cells++os.flatten).length) ns) js:=kj.mono fun id jd hq=>by
  obtain⟨C,D,B,q1,q2,q3,q4⟩:=hq
  obtain⟨D',p3,le⟩:=e4.ext.κ jd D q3
  exact⟨C,D',B,q1,q2,p3,le.blk.trans q4⟩
 have vg:=OM qq D4 e5 ((g8 _ e5).mono fun _ _ h=>h.ext n6)
 obtain⟨G,hG⟩:∃G,G=sJ ((rs.cells++os.flatten).map RC.lnk) (yZ bs++kf (nm+(rs.cells++os.flatten).length) ns) (mj nm (rs.cells++os.flatten) dx).1:=⟨_,rfl⟩
 rw[←hG] at vg
 have Zi:us.length=rs.cells.length:=by rw[←d1.length,hlen]
 have hgr:zP (zW Mg) (G.take rs.cells.length) us:=by
  have:=zP.take rs.cells.length vg
  rwa [show(us++HL).take rs.cells.length=us from by rw[←Zi,List.take_left]] at this
 have hgb:zP (zW Mg) (G.drop rs.cells.length) HL:=by
  have:=zP.drop rs.cells.length vg
  rwa [show(us++HL).drop rs.cells.length=HL from by rw[←Zi,List.drop_left]] at this
 have hHc:Mg.H=L0.H:=by rw[n1,g1];exact e1
 have D5:=Y7 (P:=fun _ _=>True) kj (k4 hHc hgb)
 have sU:∀jd B,(∃cells,L0.h jd=some (.box true cells))→(∃C,L0.κ jd=some C∧C.blk=some B)→∃cells C,L.h jd=some (.box true cells)∧L.κ jd=some C∧B∈C.fp:=fun jd B ⟨cells,q1⟩ ⟨C,q2,q3⟩=>by
  obtain⟨C',q4,le⟩:=e4.ext.κ jd C q2
  refine⟨cells,C',?_,q4,?_⟩
  ·rcases e6 jd with h|⟨own,t,xs,h,_⟩|⟨ver,xs,h,_⟩
   ·rw[h,q1]
   ·rw[q1] at h;cases h
   ·rw[q1] at h;cases h
  ·have:C'.blk=some B:=le.blk.trans q3
   simp[zS.fp,this]
 have D6:∀b,b∈(js.map fun id=>((L0.κ id).bind zS.blk).getD 0)→qR L b:=fun b hb=>by
  obtain⟨j,hj,rfl⟩:=List.mem_map.1 hb
  obtain⟨cells,C,B,q1,q2,q3⟩:=ni j hj
  obtain⟨bG,D,p4,p5,p6⟩:=sU j B ⟨cells,q1⟩ ⟨C,q2,q3⟩
  have e:((L0.κ j).bind zS.blk).getD 0=B:=by rw[q2];show C.blk.getD 0=B;rw[q3];rfl
  rw[e]
  exact⟨j,_,D,p4,rfl,p5,p6⟩
 have vh : mr (YT Mg) (yZ bs ++ kf (nm + (rs.cells ++ os.flatten).length) ns) (sM os (G.drop rs.cells.length)) (js.map fun id => ((L0.κ id).bind zS.blk).getD 0) := mr.mono (fun id css B _ ⟨jd,q1,q2,⟨D0,q3,Zj,_⟩,q4⟩=>by
  obtain⟨C,D1,B',p1,p2,p3,Zk⟩:=q1
  rw[q3] at p3;cases p3
  rw[Zj] at Zk;cases Zk
  obtain⟨cells,D,p4,p5,p6⟩:=sU jd B q2 ⟨_,q3,Zj⟩
  have aD:qR L B:=⟨jd,_,D,p4,rfl,p5,p6⟩
  refine⟨⟨C,p1,p2⟩,q4,fun ho=>?_,?_⟩
  ·rcases g7 B (n7 B ho) with h|⟨kd,Zl,D',p7,p8⟩
   ·exact sS B aD h
   ·obtain⟨o,p9,ql⟩:=sH hK kd Zl
    refine e3.disj jd kd _ o D D' B (fun e=>?_) p4 p9 rfl ql p5 p7 p6 p8
    exact Y2 hK kd Zl true cells (by rw[←e];exact p4)
  ·rw[n3,g3];exact sR B aD) D5
 have hBs:(js.map fun id=>((L0.κ id).bind zS.blk).getD 0).Nodup:=Zc c3 (xZ D3) ni
 obtain⟨Mf,r1,r2,r3,r4,r5,r6,r7⟩:=YU n5 vh hBs
 have Oq:yT M1 Mf:=by
  have aD:∀b,qR Mf b→b<M1.H.size→qR M1 b:=fun b hb aV=>by
   rcases r7 b hb with hb|hb
   ·rcases g7 b (n7 b hb) with h|⟨id,aa,C,hC,yk⟩
    ·exact(f3 b h).1
    ·obtain⟨o,ho,fI⟩:=sH hK id aa
     exact(qp b ⟨id,o,C,ho,fI,hC,yk⟩ aV).own dR
   ·exact(qp b (D6 b hb) aV).own dR
  have HA:Mf.H=(M1.overX L ak).H:=r1.trans (n1.trans g1)
  refine⟨Zg.trans ?_ r6,?_,fun b hb hn=>?_,aD,fun b hb aV=>?_,fun b hb aV=>?_⟩
  ·rw[n1,g1];exact f2.size
  ·rw[HA];exact f2.size
  ·rw[HA];exact f2.frame b hb hn
  ·rw[r2,n2,g2] at hb;exact f2.Gb b hb aV
  ·rw[r3,n3,g3] at hb;exact f2.Fb b hb aV
 have nj:(yZ bs++kf (nm+(rs.cells++os.flatten).length) ns).length=(sM os (G.drop rs.cells.length)).length:=by
  rw[Y6,kj.length,k2]
 refine⟨Mf,⟨c6,c7,c8,?_,?_,r5,a4.trans Oq⟩,?_⟩
 ·rw[r1,n1,g1];show L.H=_;rw[e1,c2]
 ·rw[r4,n4,g4]
  show _=qJ M.h (u0++(mo (wO (as.flatMap AX.cells) cs)++((mj nm (rs.cells++os.flatten) dx).2++yu (yZ bs++kf (nm+(rs.cells++os.flatten).length) ns) (sM os ((sJ ((rs.cells++os.flatten).map RC.lnk) (yZ bs++kf (nm+(rs.cells++os.flatten).length) ns) (mj nm (rs.cells++os.flatten) dx).1).drop rs.cells.length)))))
  rw[←hG,iZ,iZ,iZ,←a2]
  refine YV nj fun m hm=>?_
  rw[List.mem_append,not_or] at hm
  rw[sQ,if_neg hm.2]
  refine uL ?_
  show qJ M1.h (mo ak) m=_
  rw[sQ,sQ,←fJ]
  simp[hm.1]
 ·show zU Mf (rs.mk ((sJ ((rs.cells++os.flatten).map RC.lnk) (yZ bs++kf (nm+(rs.cells++os.flatten).length) ns) (mj nm (rs.cells++os.flatten) dx).1).take rs.cells.length)) rv
  rw[←hG]
  exact d2 Mf _ (hgr.mono fun _ _ h=>h.ext r6)
theorem Zm {P:Program}{na:Nat}{f:FuncId}(cf:∀vs w,(callFunc f vs).run P w=.ok (.enter f vs) w)
  {as:List AX} {rs:RS} {os:List (List RC)} {ns:Nat} {X:Type} {S:XD as→Option X} {pack:X→RL (rs.cells++os.flatten)} {unpack:RL (rs.cells++os.flatten)→X} (dQ:∀d,pack (unpack d)=d) (iG:qf as na=true)
  (kk:∀d x,S d=some x→∀(M:zB) (w:World) (vs:Array Value),M.h=(iE as d).2→M.H=w.heap→Ok M→zP (zU M) (iE as d).1 vs.toList→Calls P f vs w fun
   |.returned rv,w'=>∃(v:zD) (st:St),DT as rs os ns unpack v st=some x∧HI w na (as.any AX.isChn) M vs rv w' v st
   |_,_=>False)
  {nm:Nat} {args:List zD} {h:Hp} {v:zD} {u:zZ} (hy:yI (oJ as rs os ns S pack nm args h) v u):pT P f args h v u:=by
 intro M w vs hh hH ok hv
 refine .inl ⟨cf vs w,?_⟩
 unfold oJ at hy
 split at hy
 ·exact hy.elim
 rename_i u0 io rows d he
 obtain⟨x,hx,rfl,rfl⟩:=hy
 obtain⟨Ml,b1,b2,b3,b4,b5⟩:=Ze iG he M w vs hh hH ok hv
 refine Calls.mono (kk d x hx Ml w vs b1 b2 b3 b4) fun e w' hl=>?_
 cases e with
 |panicked _=>exact hl.elim
 |outgrown=>exact hl.elim
 |returned rv=>
  obtain⟨v0,st,hK,hl⟩:=hl
  have hK:sL st as rs os ns v0=some (pack x):=by
   unfold DT at hK
   split at hK
   ·rename_i d' gj
    cases hK
    rw[gj,dQ]
   ·cases hK
  exact b5 rv w' v0 st hl rs os ns (pack x) hK (Nat.le_refl _)
theorem vLx {P:Program}{na:Nat}{f:FuncId}(cf:∀vs w,(callFunc f vs).run P w=.ok (.enter f vs) w)
  {as:List AX} {rs rs2:RS} {os os2:List (List RC)} {ns ns2:Nat} {X Y:Type} {S:XD as→Option (X⊕Y)} {pk:X→RL (rs.cells++os.flatten)} {up:RL (rs.cells++os.flatten)→X} {gm:Y→RL (rs2.cells++os2.flatten)} {kg:RL (rs2.cells++os2.flatten)→Y}
  (dQ:∀d,pk (up d)=d) (kl:∀d,gm (kg d)=d) (iG:qf as na=true)
  (kk:∀d x,S d=some x→∀(M:zB) (w:World) (vs:Array Value),M.h=(iE as d).2→M.H=w.heap→Ok M→zP (zU M) (iE as d).1 vs.toList→Calls P f vs w fun
   |.returned rv,w'=>∃(v:zD) (st:St),HE as rs os ns rs2 os2 ns2 up kg v st=some x∧HI w na (as.any AX.isChn) M vs rv w' v st
   |_,_=>False)
  {nm:Nat} {args:List zD} {h:Hp} {v:zD} {u:zZ} (hy:yI (qg as rs os ns rs2 os2 ns2 S pk gm nm args h) v u):pT P f args h v u:=by
 intro M w vs hh hH ok hv
 refine .inl ⟨cf vs w,?_⟩
 unfold qg at hy
 split at hy
 ·exact hy.elim
 rename_i u0 io rows d he
 obtain⟨Ml,b1,b2,b3,b4,b5⟩:=Ze iG he M w vs hh hH ok hv
 rcases hy with⟨x,hx,rfl,rfl⟩|⟨x,hx,rfl,rfl⟩<;>
 ·refine Calls.mono (kk d _ hx Ml w vs b1 b2 b3 b4) fun e w' hl=>?_
  cases e with
  |panicked _=>exact hl.elim
  |outgrown=>exact hl.elim
  |returned rv=>
   obtain⟨v0,st,hK,hl⟩:=hl
   unfold HE at hK
   split at hK
   ·rename_i d' gj
    cases hK<;>exact b5 rv w' v0 st hl rs os ns _ (by rw[gj,dQ]) (by omega)
   ·split at hK
    ·rename_i d' gj
     cases hK<;>exact b5 rv w' v0 st hl rs2 os2 ns2 _ (by rw[gj,kl]) (by omega)
    ·cases hK
theorem Zn {E:qE}(hE:jZ E)(hS:gV E.sums)(hm:E.P.follows .mixedOrders=true){A:qB}{k pre na:Nat}{f:FuncId}{fn:Func}(hf:E.P.funcs[f]? =some fn)(hL:∀c,fn.body=some c→vN E.P A pre na fn.ntmps c){chn:Bool}(ki:(!chn||A.loops.isEmpty)=true)
  {R:Type} {K:zD→St→Option R} {x:R} {args:List zD} {h:Hp} (aO:ik E A k pre na fn args h K=some x) {M:zB} {w:World} {vs:Array Value} (h1:M.h=h) (h2:M.H=w.heap) (h3:Ok M) (h4:zP (zU M) args vs.toList):
  Calls E.P f vs w fun
   |.returned rv,w'=>∃(v:zD) (st:St),K v st=some x∧HI w na chn M vs rv w' v st
   |_,_=>False:=by
 refine Calls.mono (Oc hE hS hm hf hL aO h1 h2 h3 h4) fun e w' hl=>?_
 cases e with
 |panicked _=>exact hl.elim
 |outgrown=>exact hl.elim
 |returned rv=>
  obtain⟨M',v,st,a1,a2,a3,a4,a5,a6,a7,a8,a9,a10,a11⟩:=hl
  refine⟨v,st,a1,M',a2,a3,a4,a5,fun hc=>a6 ?_,a7,a8,a9,a10,a11⟩
  subst hc
  exact List.isEmpty_iff.1 ki
theorem vJk {E:qE}(hE:jZ E)(hS:gV E.sums)(hm:E.P.follows .mixedOrders=true){A:qB}{k pre na:Nat}{f:FuncId}{fn:Func}(hf:E.P.funcs[f]? =some fn)(hL:∀c,fn.body=some c→vN E.P A pre na fn.ntmps c)(cf:∀vs w,(callFunc f vs).run E.P w=.ok (.enter f vs) w)
  {as:List AX} {rs:RS} {os:List (List RC)} {ns:Nat} {X:Type} {S:XD as→Option X} {pack:X→RL (rs.cells++os.flatten)} {unpack:RL (rs.cells++os.flatten)→X} (dQ:∀d,pack (unpack d)=d) (iG:qf as na=true) (ki:(!as.any AX.isChn||A.loops.isEmpty)=true)
  (aO:∀d,ik E A k pre na fn (iE as d).1 (iE as d).2 (DT as rs os ns unpack)=S d)
  {nm:Nat} {args:List zD} {h:Hp} {v:zD} {u:zZ} (hy:yI (oJ as rs os ns S pack nm args h) v u):pT E.P f args h v u:=
 Zm cf dQ iG (fun d x hx M w vs h1 h2 h3 h4=>Zn hE hS hm hf hL ki ((aO d).trans hx) h1 h2 h3 h4) hy
theorem yS8 {E:qE}(hE:jZ E)(hS:gV E.sums)(hm:E.P.follows .mixedOrders=true){A:qB}{k pre na:Nat}{f:FuncId}{fn:Func}(hf:E.P.funcs[f]? =some fn)(hL:∀c,fn.body=some c→vN E.P A pre na fn.ntmps c)(cf:∀vs w,(callFunc f vs).run E.P w=.ok (.enter f vs) w)
  {as:List AX} {rs rs2:RS} {os os2:List (List RC)} {ns ns2:Nat} {X Y:Type} {S:XD as→Option (X⊕Y)} {pk:X→RL (rs.cells++os.flatten)} {up:RL (rs.cells++os.flatten)→X} {gm:Y→RL (rs2.cells++os2.flatten)} {kg:RL (rs2.cells++os2.flatten)→Y}
  (dQ:∀d,pk (up d)=d) (kl:∀d,gm (kg d)=d) (iG:qf as na=true) (ki:(!as.any AX.isChn||A.loops.isEmpty)=true)
  (aO:∀d,ik E A k pre na fn (iE as d).1 (iE as d).2 (HE as rs os ns rs2 os2 ns2 up kg)=S d)
  {nm:Nat} {args:List zD} {h:Hp} {v:zD} {u:zZ} (hy:yI (qg as rs os ns rs2 os2 ns2 S pk gm nm args h) v u):pT E.P f args h v u:=
 vLx cf dQ kl iG (fun d x hx M w vs h1 h2 h3 h4=>Zn hE hS hm hf hL ki ((aO d).trans hx) h1 h2 h3 h4) hy
section
variable {h h':Hp}
theorem yZ1 {x:XC}{c:zG}(hh:∀id∈vA c,h id=h' id):DO h x c=DO h' x c:=by
 unfold DO
 split
 ·exact YC hh
 ·rename_i id;rw[hh id (by simp[vA])]
 ·rename_i id;rw[hh id (by simp[vA])]
 ·rename_i id;rw[hh id (by simp[vA])]
 ·rfl
 ·rfl
theorem Zo:∀{l:List XC} {cs:List zG},(∀id∈cs.flatMap vA,h id=h' id)→ng h l cs=ng h' l cs
 |[],[],_=>rfl
 |[],_::_,_=>rfl
 |_::_,[],_=>rfl
 |p::l,c::cs,hh=>by
  simp only[List.flatMap_cons,List.mem_append] at hh
  unfold ng
  rw[yZ1 fun id hi=>hh id (.inl hi),Zo fun id hi=>hh id (.inr hi)]
theorem vM0 {ls:List (Bool×List XC)}:gX h ls []=gX h' ls []:=by
 cases ls<;>rfl
theorem vHv {s:AX}{a:zD}(hb:yW a=false):s.get h a=s.get h' a:=by
 unfold AX.get
 cases s with
 |c p=>cases a<;>rfl
 |agg l=>cases a<;>rfl
 |ptr io l=>
  cases a with
  |c x=>cases x<;>first|rfl|(exact absurd hb (by simp[yW]))
  |_=>rfl
 |fn f bq=>
  cases a with
  |c x=>cases x with
   |fn g ids=>
    cases ids with
    |nil=>dsimp only;rw[vM0]
    |cons _ _=>exact absurd hb (by simp[yW])
   |_=>rfl
  |_=>rfl
 |chn ls=>
  cases a with
  |c x=>cases x<;>first|rfl|(exact absurd hb (by simp[yW]))
  |_=>rfl
theorem vJx {s:AX}{a:zD}{cs:List zG}{bs:List (Bool×Nat)}(hb:yW a=false)(e:s.get h a=some (cs,bs)):∀id∈cs.flatMap vA,id∈yL a:=by
 unfold AX.get at e
 split at e
 ·cases e;intro id aa;simp only[List.flatMap_cons,List.flatMap_nil,List.append_nil] at aa;exact aa
 ·obtain⟨_,e⟩:=vE e
  cases e;exact fun id aa=>aa
 ·exact absurd hb (by simp[yW])
 ·rename_i f bq g ids
  obtain⟨_,e⟩:=vE e
  cases ids with
  |nil=>cases bq with
   |nil=>cases e;intro id aa;simp at aa
   |cons _ _=>cases e
  |cons _ _=>exact absurd hb (by simp[yW])
 ·exact absurd hb (by simp[yW])
 ·cases e
theorem Zp:∀{l:List AX} {as:List zD},as.any yW=false→iD h l as=iD h' l as
 |[],[],_=>rfl
 |[],_::_,_=>rfl
 |_::_,[],_=>rfl
 |s::l,a::as,hb=>by
  simp only[List.any_cons,Bool.or_eq_false_iff] at hb
  unfold iD
  rw[vHv (h:=h) (h':=h') hb.1,Zp hb.2]
theorem Zq:∀{l:List AX} {as:List zD} {cs:List zG} {bs:List (Bool×Nat)},as.any yW=false→iD h l as=some (cs,bs)→∀id∈cs.flatMap vA,id∈as.flatMap yL
 |[],[],cs,bs,_,e=>by cases e;intro id aa;simp at aa
 |[],_::_,_,_,_,e=>by cases e
 |_::_,[],_,_,_,e=>by cases e
 |s::l,a::as,cs,bs,hb,e=>by
  simp only[List.any_cons,Bool.or_eq_false_iff] at hb
  unfold iD at e
  split at e
  ·rename_i c1 b1 c2 b2 e1 e2
   cases e
   intro id aa
   rw[List.flatMap_append,List.mem_append] at aa
   rw[List.flatMap_cons,List.mem_append]
   rcases aa with aa|aa
   ·exact .inl (vJx hb.1 e1 id aa)
   ·exact .inr (Zq hb.2 e2 id aa)
  ·cases e
theorem vC7 {s:AX}{a:zD}(hh:∀id∈yL a,h id=h' id):sN h s a=sN h' s a:=by
 unfold sN
 split
 ·rename_i p x
  have:=ym (h:=h) (h':=h') (l:=[p.isKept]) (cs:=[x]) (by rw[yl];exact hh)
  simp only[this]
 ·rename_i l xs
  have:=ym (h:=h) (h':=h') (l:=l.map PC.isKept) (cs:=xs) hh
  simp only[this]
 ·rfl
theorem yYh {s:AX}{a a':zD}{u:zZ}(e:sN h s a=some (a',u)):(∀id∈yL a',id∈yL a)∧(yW a=false→yW a'=false):=by
 unfold sN at e
 split at e
 ·rename_i p x
  split at e
  ·rename_i y u1 e1
   cases e
   refine⟨fun id aa=>by have:=yn e1 id (by rw[yl];exact aa);rwa [yl] at this,fun hb=>?_⟩
   cases hk:p.isKept with
   |false=>rw[hk] at e1;cases e1;exact hb
   |true=>
    rw[hk] at e1
    unfold eX at e1
    split at e1
    ·rename_i c1 u2 kN om e2 e3
     cases e3
     cases e1
     cases hy:yW (.c y) with
     |false=>rfl
     |true=>rw[(Ot e2).2 hy] at hb;cases hb
    ·cases e1
  ·cases e
 ·rename_i l xs
  split at e
  ·rename_i ys u1 e1
   cases e
   exact⟨yn e1,fun _=>rfl⟩
  ·cases e
 ·cases e;exact⟨fun _ h=>h,fun h=>h⟩
theorem Zr:∀{l:List AX} {as:List zD},(∀id∈as.flatMap yL,h id=h' id)→oI h l as=oI h' l as
 |[],as,_=>by cases as<;>rfl
 |_::_,[],_=>rfl
 |s::l,a::as,hh=>by
  simp only[List.flatMap_cons,List.mem_append] at hh
  unfold oI
  rw[vC7 fun id hi=>hh id (.inl hi),Zr fun id hi=>hh id (.inr hi)]
theorem Zs:∀{l:List AX} {as ez:List zD} {u:zZ},oI h l as=some (ez,u)→(∀id∈ez.flatMap yL,id∈as.flatMap yL)∧(as.any yW=false→ez.any yW=false)
 |[],as,ez,u,e=>by cases as<;>cases e<;>exact⟨fun _ h=>h,fun h=>h⟩
 |s::l,[],ez,u,e=>by cases e;exact⟨fun _ h=>h,fun h=>h⟩
 |s::l,a::as,ez,u,e=>by
  unfold oI at e
  split at e
  ·rename_i a1 u1 On om e1 e2
   cases e
   obtain⟨k1,k2⟩:=yYh e1
   obtain⟨k3,k4⟩:=Zs e2
   refine⟨fun id aa=>?_,fun hb=>?_⟩
   ·rw[List.flatMap_cons,List.mem_append] at aa⊢
    exact aa.imp (k1 id) (k3 id)
   ·simp only[List.any_cons,Bool.or_eq_false_iff] at hb⊢
    exact⟨k2 hb.1,k4 hb.2⟩
  ·cases e
theorem Zt {as:List AX}{nm n:Nat}{args:List zD}(h1:args.any yW=false→∀id,(id∈args.flatMap yL∨lv nm id=true)→h id=h' id)(h2:args.any yW=true→h=h'):uZ as nm n args h=uZ as nm n args h':=by
 cases hb:args.any yW with
 |true=>rw[h2 hb]
 |false=>
  have hh:=h1 hb
  unfold uZ
  rw[Zr (h:=h) (h':=h') fun id aa=>hh id (.inl aa)]
  cases e:oI h' as args with
  |none=>rfl
  |some p=>
   obtain⟨eh,u⟩:=p
   obtain⟨k1,k2⟩:=Zs e
   dsimp only
   rw[Zp (h:=qJ h u) (h':=qJ h' u) (k2 hb)]
   cases e2:iD (qJ h' u) as eh with
   |none=>rfl
   |some q=>
    obtain⟨cs,bs⟩:=q
    dsimp only
    rw[Zo (h:=qJ h u) (h':=qJ h' u) fun id aa=>uL (hh id (.inl (k1 id (Zq (k2 hb) e2 id aa))))]
    cases ng (qJ h' u) (as.flatMap AX.cells) cs with
    |none=>rfl
    |some d=>
     dsimp only
     cases hle:Nat.ble n 100 with
     |false=>simp
     |true=>
      have hle:=Nat.le_of_ble_eq_true hle
      rw [Ou (h := h) (h' := h') fun i hi => hh _ (.inr (by
       simp only[lv,Bool.and_eq_true]
       exact⟨Nat.ble_eq_true_of_le (by omega),by simp[Nat.blt_eq];omega⟩))]
end
theorem Zu {as:List AX}{rs:RS}{os:List (List RC)}{ns:Nat}{X:Type}{S:Nat→XD as→Option X}{pack:X→RL (rs.cells++os.flatten)}:DI fun k nm args h=>oJ as rs os ns (S k) pack nm args h:=by
 intro k nm args h h' h1 h2
 show oJ as rs os ns (S k) pack nm args h=oJ as rs os ns (S k) pack nm args h'
 unfold oJ
 rw[Zt h1 h2]
theorem vDn {as:List AX}{rs rs2:RS}{os os2:List (List RC)}{ns ns2:Nat}{X Y:Type}{S:Nat→XD as→Option (X⊕Y)}{pk:X→RL (rs.cells++os.flatten)}{gm:Y→RL (rs2.cells++os2.flatten)}:DI fun k nm args h=>qg as rs os ns rs2 os2 ns2 (S k) pk gm nm args h:=by
 intro k nm args h h' h1 h2
 show qg as rs os ns rs2 os2 ns2 (S k) pk gm nm args h=qg as rs os ns rs2 os2 ns2 (S k) pk gm nm args h'
 unfold qg
 rw[Zt h1 h2]
structure zJ (P:Program) (r:Nat×zH):Prop where
 ok:Yz P r
 loc:DI r.2
def yy (P:Program):List (Nat×zH)→Prop
 |[]=>True
 |r::l=>zJ P r∧yy P l
theorem yy.all {P:Program}:∀{l:List (Nat×zH)},yy P l→∀r∈l,zJ P r
 |[],_,_,h=>by cases h
 |a::l,h,r,hr=>by
  rcases List.mem_cons.1 hr with rfl|hr
  ·exact h.1
  ·exact yy.all h.2 r hr
structure qQ (E:qE):Prop where
 ok:jZ E
 loc:gV E.sums
 ord:E.P.follows .mixedOrders=true
theorem yVc {P:Program}{l:List (Nat×zH)}{eqT:TypeId→Bool}(he:G0 P eqT)(hm:P.follows .mixedOrders=true)(h:yy P l):qQ ⟨P,eqT,qS l⟩:=
 ⟨⟨he,YA fun r hr=>(h.all r hr).ok⟩,YB fun r hr=>(h.all r hr).loc,hm⟩
theorem zN {P:Program}{l:List (Nat×zH)}(hm:P.follows .mixedOrders=true)(h:yy P l):qQ ⟨P,fun _=>false,qS l⟩:=yVc vFk hm h
theorem qV {P:Program}{A:qB}{pre na nt:Nat}{c:Code}{L:qI}(h:qH P pre na nt (qD c 0) L)(hn:(lK c).length=1:=by kernel_rfl) (hl:sf A (qD c 0)=some L:=by kernel_rfl):vN P A pre na nt c:=
 loopsOK_of hn fun i hi=>by
  obtain rfl:i=0:=by omega
  exact⟨L,hl,h⟩
theorem zK {P:Program}{A:qB}{pre na nt:Nat}{c:Code}(hn:(lK c).length=0:=by kernel_rfl):vN P A pre na nt c:=yZ2 hn
def Zv (E:qE)(A:qB)(na nt:Nat)(b:Code)(ins:List zL)(outs:List (Ex×zL)){X Y:Type}(kF:mc outs→X)(c:Y→lu ins→Option X)(bf:Nat→Y→Y):Prop:=
 ∀k rec d,c (bf k rec) d=GG (1000+fH) ins d fun st=>gd E A k 1000 na nt b st (Ww 1000 ins outs kF (c rec))
abbrev vCf (X:Type):=Nat→X→(R:Type)→(Ex→St→Option R)→Option R
theorem vGq {E:qE}{A:qB}{na nt:Nat}{b:Code}{ins:List zL}{outs:List (Ex×zL)}{X Y:Type}{kF:mc outs→X}{c:Y→lu ins→Option X}{bf:Nat→Y→Y}(hE:qQ E)(hs:Zv E A na nt b ins outs kF c bf)(f:Nat→Nat→Y)(elim:vCf X)
  (hX:∀o R K,elim (1000+fH) (kF o) R K=xL (1000+fH) outs o K) (hL:vN E.P A 1000 na nt b) (h0:∀k d,c (f k 0) d=none:=by intros;rfl) (h1:∀k n,f k (n+1)=bf k (f k n):=by intros;rfl):
  qH E.P 1000 na nt b ⟨ins,outs,X,fun k d=>c (f k k) d,elim⟩:=
 vC2 hE.ok hE.loc hE.ord hL kF elim hX (fun k n d=>c (f k n) d) h0 (fun k n d=>by rw[h1];exact hs k (f k n) d)
def OR (E:qE)(A:qB)(na:Nat)(fn:Func)(as:List AS)(rs:RS){X:Type}(up:RL rs.cells→X)(S:Nat→AD as→Option X):Prop:=
 ∀k d,ik E A k 1000 na fn (mZ as d).1 (mZ as d).2 (kQ rs up)=S k d
def Zw (E:qE)(A:qB)(na:Nat)(fn:Func)(as:List AX)(rs:RS)(os:List (List RC))(ns:Nat){X:Type}(up:RL (rs.cells++os.flatten)→X)(S:Nat→XD as→Option X):Prop:=
 ∀k d,ik E A k 1000 na fn (iE as d).1 (iE as d).2 (DT as rs os ns up)=S k d
def Zx (E:qE)(A:qB)(na:Nat)(fn:Func)(as:List AX)(rs:RS)(os:List (List RC))(ns:Nat)(rs2:RS)(os2:List (List RC))(ns2:Nat){X Y:Type}(up:RL (rs.cells++os.flatten)→X)(kg:RL (rs2.cells++os2.flatten)→Y)(S:Nat→XD as→Option (X⊕Y)):Prop:=
 ∀k d,ik E A k 1000 na fn (iE as d).1 (iE as d).2 (HE as rs os ns rs2 os2 ns2 up kg)=S k d
theorem vLc {E:qE}{A:qB}{na f:Nat}{fn:Func}{as:List AS}{rs:RS}{X:Type}{S:Nat→AD as→Option X}{pack:X→RL rs.cells}{unpack:RL rs.cells→X}(hE:qQ E)(aO:OR E A na fn as rs unpack S)(hL:vN E.P A 1000 na fn.ntmps (qG fn))
  (hf:E.P.funcs[f]? =some fn:=by kernel_rfl) (hb:fn.body.isNone=false:=by kernel_rfl) (hn:(fn.name== "runtime.NumGoroutine")=false:=by kernel_rfl) (dQ:∀d,pack (unpack d)=d:=by intro d;rfl):
  zJ E.P (f,fun k nm args h=>mm as rs (S k) pack nm args h):=
 ⟨fun k _ _ _ _ _ hy=>yUg hE.ok hE.loc hE.ord hf (body_loops hL) (DJ hf hb hn) dQ (aO k) hy,YI⟩
theorem yXz {E:qE}{A:qB}{na f:Nat}{fn:Func}{as:List AX}{rs:RS}{os:List (List RC)}{ns:Nat}{X:Type}{S:Nat→XD as→Option X}{pack:X→RL (rs.cells++os.flatten)}{unpack:RL (rs.cells++os.flatten)→X}(hE:qQ E)(aO:Zw E A na fn as rs os ns unpack S)
  (hL:vN E.P A 1000 na fn.ntmps (qG fn)) (hf:E.P.funcs[f]? =some fn:=by kernel_rfl) (hb:fn.body.isNone=false:=by kernel_rfl) (hn:(fn.name== "runtime.NumGoroutine")=false:=by kernel_rfl) (iG:qf as na=true:=by kernel_rfl) (ki:(!as.any AX.isChn||A.loops.isEmpty)=true:=by kernel_rfl) (dQ:∀d,pack (unpack d)=d:=by intro d;rfl):
  zJ E.P (f,fun k nm args h=>oJ as rs os ns (S k) pack nm args h):=
 ⟨fun k _ _ _ _ _ hy=>vJk hE.ok hE.loc hE.ord hf (body_loops hL) (DJ hf hb hn) dQ iG ki (aO k) hy,Zu⟩
theorem vA3 {E:qE}{A:qB}{na f:Nat}{fn:Func}{as:List AX}{rs rs2:RS}{os os2:List (List RC)}{ns ns2:Nat}{X Y:Type}{S:Nat→XD as→Option (X⊕Y)}{pk:X→RL (rs.cells++os.flatten)}{up:RL (rs.cells++os.flatten)→X}{gm:Y→RL (rs2.cells++os2.flatten)}{kg:RL (rs2.cells++os2.flatten)→Y}(hE:qQ E)
  (aO:Zx E A na fn as rs os ns rs2 os2 ns2 up kg S)
  (hL:vN E.P A 1000 na fn.ntmps (qG fn)) (hf:E.P.funcs[f]? =some fn:=by kernel_rfl) (hb:fn.body.isNone=false:=by kernel_rfl) (hn:(fn.name== "runtime.NumGoroutine")=false:=by kernel_rfl) (iG:qf as na=true:=by kernel_rfl) (ki:(!as.any AX.isChn||A.loops.isEmpty)=true:=by kernel_rfl) (dQ:∀d,pk (up d)=d:=by intro d;rfl) (kl:∀d,gm (kg d)=d:=by intro d;rfl):
  zJ E.P (f,fun k nm args h=>qg as rs os ns rs2 os2 ns2 (S k) pk gm nm args h):=
 ⟨fun k _ _ _ _ _ hy=>yS8 hE.ok hE.loc hE.ord hf (body_loops hL) (DJ hf hb hn) dQ kl iG ki (aO k) hy,vDn⟩
theorem vHg {E:qE}{A:qB}{na f:Nat}{fn:Func}{sh:Bool}{t:Ty}{rs:RS}{X:Type}{S:Nat→List t.den→Option X}{pack:X→RL rs.cells}{unpack:RL rs.cells→X}(hE:qQ E)(cd:∀k,ik E A k 1000 na fn [.c .nsl] (ka []) (kQ rs unpack)=S k [])
  (aO:∀k xs,ik E A k 1000 na fn [.c (.nfl sh t xs)] (ka []) (kQ rs unpack)=S k xs) (hL:vN E.P A 1000 na fn.ntmps (qG fn)) (hf:E.P.funcs[f]? =some fn:=by kernel_rfl) (hb:fn.body.isNone=false:=by kernel_rfl) (hn:(fn.name== "runtime.NumGoroutine")=false:=by kernel_rfl) (dQ:∀d,pack (unpack d)=d:=by intro d;rfl):
  zJ E.P (f,fun k nm args h=>mm [.c (.dat sh t)] rs (fun d=>S k d.1) pack nm args h):=
 ⟨fun k _ _ _ _ _ hy=>vMc hE.ok hE.loc hE.ord hf (body_loops hL) (DJ hf hb hn) dQ (fun x hx=>(cd k).trans hx) (fun xs x hx=>(aO k xs).trans hx) hy,YI⟩
def vi (k:Nat)(a b c:Int):Option (Int×Int):=
 bif decide (c=0) then some (Int.ofNat ((a.toNat+b.toNat+0)%18446744073709551616),Int.ofNat ((a.toNat+b.toNat+0)/18446744073709551616)) else none
def HM:zH:=fun k nm args h=>match args with
 |[.c (.int .u64 a),.c (.int .u64 b),.c (.int .u64 c)]=>.call (Int×Int) (vi k a b c) (fun r=>(.tup [(false,[.int .u64 r.1]),(false,[.int .u64 r.2])],[]))
 |_=>.stuck
theorem vDp {P:Program}(a b:Int)(w:World):
  (add64Entry #[.int .u64 a,.int .u64 b,.int .u64 0]).run P w=.ok (.tuple #[.int .u64 (Int.ofNat ((a.toNat+b.toNat+0)%18446744073709551616)),.int .u64 (Int.ofNat ((a.toNat+b.toNat+0)/18446744073709551616))]) w:=rfl
theorem vGo {P:Program}{f:Nat}{fn:Func}(hf:P.funcs[f]? =some fn:=by kernel_rfl) (nk:(fn.name== "runtime.NumGoroutine")=false:=by kernel_rfl) (hb:fn.body.isNone=true:=by kernel_rfl)
  (hn:Extern.findNext fn=none:=by kernel_rfl) (he:Extern.find fn=some add64Entry:=by kernel_rfl):
  zJ P (f,HM):=by
 refine⟨fun k nm args h v u hy=>?_,fun _ _ _ _ _ _ _=>rfl⟩
 intro M w vs hh hH ok hv
 refine .inr ?_
 replace hy:yI (HM k nm args h) v u:=hy
 unfold HM at hy
 split at hy
 ·rename_i a b c
  obtain⟨x,hx,rfl,rfl⟩:=hy
  match hl:vs.toList,hv with
  |[v1,v2,v3],hv=>
   obtain⟨h1,h2,h3,_⟩:=hv
   cases h1;cases h2;cases h3
   obtain rfl:vs=#[.int .u64 a,.int .u64 b,.int .u64 c]:=by cases vs;simpa using hl
   unfold vi at hx
   obtain⟨hc,hx⟩:=vE hx
   cases hx
   have hc:c=0:=by simpa using hc
   subst hc
   refine⟨.tuple #[.int .u64 (Int.ofNat ((a.toNat+b.toNat+0)%18446744073709551616)),.int .u64 (Int.ofNat ((a.toNat+b.toNat+0)/18446744073709551616))],w,M,?_,⟨rfl,rfl,rfl,hH,rfl,ok,.refl M⟩,?_⟩
   ·rw[run_callFunc_extern hf nk hb hn he,vDp a b w]
    rfl
   ·exact⟨#[.int .u64 (Int.ofNat ((a.toNat+b.toNat+0)%18446744073709551616)),.int .u64 (Int.ofNat ((a.toNat+b.toNat+0)/18446744073709551616))],rfl,rfl,rfl,trivial⟩
 ·exact hy.elim
def zQ (f:Nat)(as:List AS)(rs:RS){X:Type}(s:Nat→AD as→Option X)(pk:X→RL rs.cells):Nat×zH:=(f,fun k nm args h=>mm as rs (s k) pk nm args h)
def yX (f:Nat)(as:List AX)(rs:RS)(os:List (List RC))(ns:Nat){X:Type}(s:Nat→XD as→Option X)(pk:X→RL (rs.cells++os.flatten)):Nat×zH:=(f,fun k nm args h=>oJ as rs os ns (s k) pk nm args h)
def HN (f:Nat)(as:List AX)(rs:RS)(os:List (List RC))(ns:Nat)(rs2:RS)(os2:List (List RC))(ns2:Nat){X Y:Type}(s:Nat→XD as→Option (X⊕Y))(pk:X→RL (rs.cells++os.flatten))(gm:Y→RL (rs2.cells++os2.flatten)):Nat×zH:=(f,fun k nm args h=>qg as rs os ns rs2 os2 ns2 (s k) pk gm nm args h)
theorem fA {E:qE}(fn:Func)(A:qB){f:Nat}{as:List AS}{rs:RS}{X:Type}{s:Nat→AD as→Option X}{pk:X→RL rs.cells}(up:RL rs.cells→X)(hE:qQ E)(hL:vN E.P A 1000 0 fn.ntmps (qG fn))
  (aO:OR E A 0 fn as rs up s:=by intro k d;kernel_rfl)
  (hf:E.P.funcs[f]? =some fn:=by kernel_rfl) (hb:fn.body.isNone=false:=by kernel_rfl) (hn:(fn.name== "runtime.NumGoroutine")=false:=by kernel_rfl) (dQ:∀d,pk (up d)=d:=by intro d;rfl):
  zJ E.P (zQ f as rs s pk):=vLc hE aO hL hf hb hn dQ
theorem fX {E:qE}(fn:Func)(A:qB)(na:Nat){f:Nat}{as:List AX}{rs:RS}{os:List (List RC)}{ns:Nat}{X:Type}{s:Nat→XD as→Option X}{pk:X→RL (rs.cells++os.flatten)}(up:RL (rs.cells++os.flatten)→X)(hE:qQ E)(hL:vN E.P A 1000 na fn.ntmps (qG fn))
  (aO:Zw E A na fn as rs os ns up s:=by intro k d;kernel_rfl)
  (hf:E.P.funcs[f]? =some fn:=by kernel_rfl) (hb:fn.body.isNone=false:=by kernel_rfl) (hn:(fn.name== "runtime.NumGoroutine")=false:=by kernel_rfl) (iG:qf as na=true:=by kernel_rfl) (ki:(!as.any AX.isChn||A.loops.isEmpty)=true:=by kernel_rfl) (dQ:∀d,pk (up d)=d:=by intro d;rfl):
  zJ E.P (yX f as rs os ns s pk):=yXz hE aO hL hf hb hn iG ki dQ
theorem fN {E:qE}(fn:Func)(A:qB)(na:Nat){f:Nat}{as:List AX}{rs rs2:RS}{os os2:List (List RC)}{ns ns2:Nat}{X Y:Type}{s:Nat→XD as→Option (X⊕Y)}{pk:X→RL (rs.cells++os.flatten)}(up:RL (rs.cells++os.flatten)→X){gm:Y→RL (rs2.cells++os2.flatten)}(kg:RL (rs2.cells++os2.flatten)→Y)(hE:qQ E)(hL:vN E.P A 1000 na fn.ntmps (qG fn))
  (aO:Zx E A na fn as rs os ns rs2 os2 ns2 up kg s:=by intro k d;kernel_rfl)
  (hf:E.P.funcs[f]? =some fn:=by kernel_rfl) (hb:fn.body.isNone=false:=by kernel_rfl) (hn:(fn.name== "runtime.NumGoroutine")=false:=by kernel_rfl) (iG:qf as na=true:=by kernel_rfl) (ki:(!as.any AX.isChn||A.loops.isEmpty)=true:=by kernel_rfl) (dQ:∀d,pk (up d)=d:=by intro d;rfl) (kl:∀d,gm (kg d)=d:=by intro d;rfl):
  zJ E.P (HN f as rs os ns rs2 os2 ns2 s pk gm):=vA3 hE aO hL hf hb hn iG ki dQ kl
def sV (f:Nat)(sh:Bool)(t:Ty)(r:RC)(s:Nat→List t.den→Option r.den):Nat×zH:=
 (f,fun k nm args h=>mm [.c (.dat sh t)] (.c r) (fun d=>s k d.1) (fun x=>(x,())) nm args h)
theorem fC {E:qE}(fn:Func)(A:qB){f:Nat}{sh:Bool}{t:Ty}{r:RC}{s:Nat→List t.den→Option r.den}(hE:qQ E)(hL:vN E.P A 1000 0 fn.ntmps (qG fn))
  (cd:∀k,ik E A k 1000 0 fn [.c .nsl] (ka []) (kQ (.c r) (fun d=>d.1))=s k []:=by intro k;kernel_rfl)
  (aO:∀k xs,ik E A k 1000 0 fn [.c (.nfl sh t xs)] (ka []) (kQ (.c r) (fun d=>d.1))=s k xs:=by intro k xs;kernel_rfl)
  (hf:E.P.funcs[f]? =some fn:=by kernel_rfl) (hb:fn.body.isNone=false:=by kernel_rfl) (hn:(fn.name== "runtime.NumGoroutine")=false:=by kernel_rfl):zJ E.P (sV f sh t r s):=
 vHg (rs:=.c r) (pack:=fun x=>(x,())) (unpack:=fun d=>d.1) hE cd aO hL hf hb hn
def vC {T:Type}(z:T)(b:T→T):Nat→T
 |0=>z
 |n+1=>b (vC z b n)
theorem lp {E:qE}{A:qB}{na nt:Nat}{b:Code}(L:qI){Y:Type}(kF:mc L.outs→L.X)(c:Y→lu L.ins→Option L.X)(f:Nat→Nat→Y)(bf:Nat→Y→Y)(hE:qQ E)(hL:vN E.P A 1000 na nt b)
  (hs:Zv E A na nt b L.ins L.outs kF c bf:=by intro k rec d;kernel_rfl)
  (hX:∀o R K,L.elim (1000+fH) (kF o) R K=xL (1000+fH) L.outs o K:=by intro o R K;first|rfl|(rcases o with o|o<;>rfl)|(rcases o with o|o|o<;>rfl)|(rcases o with o|o|o|o<;>rfl)|(rcases o with o|o|o|o|o<;>rfl))
  (h0:∀k d,c (f k 0) d=none:=by intros;rfl) (h1:∀k n,f k (n+1)=bf k (f k n):=by intros;rfl) (hf:(⟨L.ins,L.outs,L.X,fun k d=>c (f k k) d,L.elim⟩:qI)=L:=by rfl):qH E.P 1000 na nt b L:=by
 rw[←hf]
 exact vGq hE hs f _ hX hL h0 h1
def ins {α:Type}(b:Nat)(xs:List α)(i:Int)(ys:List α):Option (List α):=
 bif decide (0≤i)&&decide (i≤(xs.length:Int))&&Nat.beq ys.length 1&&zX (xs.length+1) b then some (xs.take i.toNat++(ys++xs.drop i.toNat)) else none
end Go.Ab
