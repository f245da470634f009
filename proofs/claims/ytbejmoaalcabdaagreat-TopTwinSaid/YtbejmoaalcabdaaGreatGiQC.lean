/- Plain proofs, part 2. -/
import Derived.Test.YtbejmoaalcabdaaGreatGiQB
set_option linter.unusedVariables false
set_option linter.unusedSimpArgs false
set_option maxRecDepth 100000
namespace Go.Ab.Gi
open Go.Ab
theorem V4 {c:Nat}{l:EQ}(h:∀x∈l,x.length≤c):(kA l).length≤8*(c+1)*l.length:=by
 induction l with
 |nil=>simp[kA]
 |cons x l ih=>
  have h1:=ih fun y hy=>h y (List.mem_cons_of_mem _ hy)
  have h2:=h x (List.mem_cons_self ..)
  have h3:8*(c+1)*(l.length+1)=8*(c+1)*l.length+8*(c+1):=Nat.mul_succ _ _
  simp only[kA,List.flatMap_cons,List.length_append,JK,List.length_cons] at h1⊢
  rw[h3]
  omega
theorem V5 {l:EQ}{n:Nat}(h:∀i,i<l.length→(l.getD i []).length=n){x:AC}(hx:x∈l):x.length=n:=by
 obtain⟨i,hi,e⟩:=List.mem_iff_getElem.1 hx
 have:=h i hi
 rw[List.getD_eq_getElem?_getD,List.getElem?_eq_getElem hi] at this
 rw[←e]
 exact this
theorem vEv {r:qS}(hr:jU r){s:qD}(h:yE r s):∃l,AP s.st=l++[s.ids]∧l.length≤67∧∀x∈l,x.length≤9:=by
 have n6:=h.bk.n6
 have n1:=h.bk.n1
 have hm:=h.waits.len
 have h3:=hr.n3
 have hb:wL s.B.1 s.B.2.1 s.B.2.2.1 s.B.2.2.2:=h.bk
 have hL:=h.laid 0 (by omega)
 have hol:=h.hol
 refine⟨_,rfl,?_,fun x hx=>?_⟩
 ·simp only[List.length_append,List.length_cons,List.length_nil,List.length_map]
  show 0+1+s.B.1.length+s.B.2.1.length+(0+1)+s.B.2.2.2.length+(0+1)+s.ho.length+s.m.length≤67
  have:=hb.bl
  have:=hb.pl
  omega
 ·simp only[List.mem_append,List.mem_singleton,List.mem_map] at hx
  rcases hx with(((((((rfl|⟨a,_,rfl⟩)|hx)|rfl)|hx)|rfl)|hx)|⟨a,_,rfl⟩)
  ·simp
  ·simp[FF]
  ·have:=V5 (l:=s.B.2.1) (fun i hi=>hb.br i (by have:=hb.bl;omega)) hx
   omega
  ·show s.B.2.2.1.length≤9
   have:=hb.ml
   omega
  ·have:=V5 (l:=s.B.2.2.2) (fun i hi=>hb.pr i (by have:=hb.pl;omega)) hx
   omega
  ·show s.pr.length≤9
   rw[hL.pl]
   omega
  ·have:=V5 (l:=s.ho) (fun i hi=>(h.laid i (by omega)).hl) hx
   omega
  ·simp[FG]
theorem vJx {k:Nat}(hk:1000≤k){r:qS}(hr:jU r){s:qD}(h:yE r s):∃b,kB k s.st=some b∧b=kA (AP s.st)∧b.length≤7000:=by
 obtain⟨l,e,h1,h2⟩:=vEv hr h
 have hi:=h.waits.idl
 have hf:eS (AP s.st):=by
  rw[e]
  refine⟨by rw[List.length_append];simp;omega,fun x hx=>?_⟩
  rcases List.mem_append.1 hx with hx|hx
  ·have:=h2 x hx;omega
  ·rw[List.mem_singleton.1 hx];omega
 refine⟨_,vG9 hk hf,rfl,?_⟩
 rw[e]
 have:=V4 h2
 have e2:kA (l++[s.ids])=kA l++AO s.ids:=by simp[kA]
 rw[e2,List.length_append,JK]
 omega
theorem vYp {k:Nat}(hk:10≤k)(w:Int)(f:jM):∃b,N9 k (w,f)=some b∧b.length≤57:=by
 unfold N9 V6
 obtain⟨b,hb⟩:=VE hk f
 obtain⟨n,h1,h2,h3⟩:=yMu k f.1
 dsimp only
 rw[hb]
 cases b with
 |false=>exact⟨[],rfl,by decide⟩
 |true=>
  have hn:0≤n:=by
   unfold qy at hb
   rw[h1] at hb
   simp only[af] at hb
   by_cases h0:n<0
   ·rw[aa h0] at hb;cases hb
   ·omega
  have hl:(qW [f.2.1,f.2.2.1,f.2.2.2.1,f.2.2.2.2.1,f.2.2.2.2.2.1,f.2.2.2.2.2.2] 0 (n.toNat-0)).length≤6:=by
   unfold qW
   rw[List.length_take,List.length_drop]
   simp
   omega
  simp only[af,aA,ak]
  rw[h1]
  simp only[af]
  rw[aa hn,aa h3]
  simp only[Bool.and_self,aj]
  generalize qW [f.2.1,f.2.2.1,f.2.2.2.1,f.2.2.2.2.1,f.2.2.2.2.2.1,f.2.2.2.2.2.2] 0 (n.toNat-0)=L at hl⊢
  rw[JI (by omega) L (by omega) (by omega)]
  have e1:=tG L
  simp only[af]
  rw[qT (by omega) (by omega)]
  simp only[aj,af]
  rw[ab (by rw[List.length_append];simp;omega)]
  simp only[ak]
  rw[JI (by omega) [w] (by simp) (by simp;omega)]
  have e2:=tG [w]
  simp only[List.length_singleton] at e2
  simp only[af]
  rw[qT (by rw[List.length_append,List.length_singleton];omega) (by rw[List.length_append,List.length_singleton];omega)]
  refine⟨_,rfl,?_⟩
  rw[List.length_append,List.length_append,List.length_singleton]
  omega
def kh (r:qS)(s:qD)(ev:Int):tE:=(r.1,r.2.1,r.2.2.1,r.2.2.2.1,r.2.2.2.2,s.t,s.B.1,s.B.2.1,s.B.2.2.1,s.B.2.2.2,s.pr,s.ho,s.m,s.ids,s.to,s.ov,ev,false)
structure oY (r:qS) (ev:Int) (N:Nat) (s:qD) (G:tE) (L:qz) (D:mi):Prop where
 g:G=kh r s ev
 inv:yE r s
 calm:oX D
 room:D.1=200000
 x:(wV D 0).length≤20000+100*N
 y:(wV D 1).length≤20000+100*N
 tk:Tk L N
theorem yZo {D:mi}{i:Int}{n:Nat}(hi:i=0∨i=1)(hx:(wV D i).length≤n)(hy:(wV D (1-i)).length≤n):(wV D 0).length≤n∧(wV D 1).length≤n:=by
 rcases hi with rfl|rfl
 ·exact⟨hx,hy⟩
 ·exact⟨hy,hx⟩
theorem oY.more {r:qS}{ev:Int}{N M:Nat}{s:qD}{G:tE}{L:qz}{D:mi}(h:oY r ev N s G L D)(hM:N≤M):oY r ev M s G L D:=
 ⟨h.g,h.inv,h.calm,h.room,by have:=h.x;omega,by have:=h.y;omega,h.tk.more hM⟩
def V7 (k:Nat)(r:qS):Prop:=∀s,yE r s→∀c,∃t o e,mg k r (qD.st s) c=some (qD.st t,o,e)∧yE r t∧(e≠0→t=s)
def AU (k:Nat)(r:qS)(s:qD)(a:Int)(m:FB×Int)(t:qD)(o:List mh):Prop:=
 (m.2≠0∧t=s∧o=[(a,16,m.2,0,0,0,0,0)])∨
 (m.2=0∧∃u p e,mg k r s.st (a,m.1)=some (u,p,e)∧((e≠0∧t=s∧o=[(a,16,e,0,0,0,0,0)])∨(e=0∧u=t.st∧o=p)))
theorem vI9 {k:Nat}(hk:1000≤k){r:qS}(hr:jU r)(hd:V7 k r)(hq:∀s c u o e,mg k r (qD.st s) c=some (u,o,e)→c.2.1=9→u=s.st){ev:Int}{N:Nat}(hN:N≤1000){s:qD}{G:tE}{L:qz}{D:mi}(h:oY r ev N s G L D)
  {a:Int} {b:AC} {m:FB×Int} (hm:nM k b=some m):
  ∃t o L' D',JM k G L D a b=some (o,kh r t ev,L',D')∧oY r ev (N+1) t (kh r t ev) L' D'∧AU k r s a m t o:=by
 obtain⟨rfl,hi,hc,uF,hx,hy,ht⟩:=h
 unfold JM
 rw[show AV k (kh r s ev) L D=some (false,kh r s ev,L,D) from rfl]
 simp only[af,ak]
 rw[hm]
 simp only[af]
 have same:oY r ev (N+1) s (kh r s ev) L D:=(oY.mk rfl hi hc uF hx hy ht:oY r ev N s (kh r s ev) L D).more (by omega)
 by_cases h0:m.2=0
 case neg=>
  rw[ab h0]
  exact⟨s,_,L,D,rfl,same,.inl ⟨h0,rfl,rfl⟩⟩
 rw[aa h0]
 simp only[aA,ak]
 obtain⟨t,o,e,h1,h2,h3⟩:=hd s hi (a,m.1)
 have e1:yG (kh r s ev)=r:=rfl
 have e2:rf (kh r s ev)=s.st:=rfl
 rw[e1,e2,h1]
 simp only[af]
 by_cases he:e=0
 case neg=>
  rw[ab he]
  exact⟨s,_,L,D,rfl,same,.inr ⟨h0,_,_,_,h1,.inl ⟨he,rfl,rfl⟩⟩⟩
 subst he
 rw[show decide ((0:Int)=0)=true from rfl]
 simp only[aA,ak]
 have act:AU k r s a m t o:=.inr ⟨h0,_,_,_,h1,.inr ⟨rfl,rfl,rfl⟩⟩
 by_cases h9:m.1.1=9
 ·rw[aa h9]
  have eq:=hq _ _ _ _ _ h1 h9
  have V8:AU k r s a m s o:=.inr ⟨h0,_,_,_,h1,.inr ⟨rfl,eq,rfl⟩⟩
  exact⟨s,_,L,D,rfl,same,V8⟩
 rw[ab h9]
 simp only[ak]
 obtain⟨c,Tb,BQ⟩:=vYp (k:=k) (by omega) a m.1
 rw[Tb]
 simp only[af]
 have hk1:∃D1,AT k L D c=some (0,(L.1,L.2.1,zA (L.2.2.1+1),L.2.2.2),D1)∧oX D1∧D1.1=200000∧(wV D1 0).length≤20000+100*(N+1)∧(wV D1 1).length≤20000+100*(N+1):=by
  have hs:=ht.side
  have eI:(wV D L.1).length≤20000+100*N∧(wV D (1-L.1)).length≤20000+100*N:=by
   rcases hs with e|e<;>rw[e]
   ·exact⟨hx,hy⟩
   ·exact⟨hy,hx⟩
  rcases vK2 (k:=k) hc (ht.takes (by omega)) (b:=c) (by omega) with⟨g1,_⟩|⟨_,D1,g1,g2,g3,g4,g5⟩
  ·omega
  ·refine⟨D1,g1,g2,g3.trans uF,?_⟩
   exact yZo hs (by rw[g4,List.length_append,yUa];omega) (by rw[g5];omega)
 obtain⟨D1,g1,g2,g3,g4,g5⟩:=hk1
 have hkp:Oa k (kh r s ev) L D c=some (0,kh r s ev,(L.1,L.2.1,zA (L.2.2.1+1),L.2.2.2),D1):=by
  unfold Oa
  rw[g1]
  rfl
 have hrw:=ht.rows
 have kp:=ht.gen
 have wr:zA (L.2.2.1+1)=L.2.2.1+1:=zR (by omega) (by omega)
 have tk1:Tk (L.1,L.2.1,zA (L.2.2.1+1),L.2.2.2) (N+1):=⟨ht.side,⟨kp.1,by show L.2.1≤_;omega⟩,by show 0≤zA (L.2.2.1+1)∧zA (L.2.2.1+1)≤_;rw[wr];omega,ht.stale⟩
 rw[hkp]
 simp only[af,decide_true,aj]
 show∃t o L' D',(Ob k (L.1,L.2.1,zA (L.2.2.1+1),L.2.2.2) D1).bind _=_∧_
 rw[show Ob k (L.1,L.2.1,zA (L.2.2.1+1),L.2.2.2) D1=some (zA (L.2.2.1+1),(L.1,L.2.1,zA (L.2.2.1+1),L.2.2.2),D1) from rfl]
 simp only[af]
 cases decide (zA (L.2.2.1+1)≥(kh r s ev).2.2.2.2.2.2.2.2.2.2.2.2.2.2.2.2.1) with
 |false=>exact⟨t,o,_,D1,rfl,⟨rfl,h2,g2,g3,g4,g5,tk1⟩,act⟩
 |true=>
  obtain⟨q,q1,_,q3⟩:=vJx hk hr h2
  simp only[aj]
  rw[q1]
  simp only[af]
  obtain⟨D2,p1,p2,p3,p4,p5⟩:=vO4 (k:=k) (by omega) g2 (tk1.takes (by omega)) (by show L.2.1<_;omega) (b:=q) (by omega) (by omega)
  rw[p1]
  simp only[af]
  have p4:wV D2 (1-L.1)=wm (re (L.2.1+1)++q):=p4
  have p5:wV D2 L.1=wV D1 L.1:=p5
  have hs:=ht.side
  have l4:(wV D2 (1-L.1)).length≤20000+100*(N+1):=by
   rw[p4,yUa,List.length_append]
   show 8+q.length+2≤_
   omega
  have l5:(wV D2 L.1).length≤20000+100*(N+1):=by
   rw[p5]
   rcases hs with e|e<;>rw[e]<;>assumption
  have l6:=yZo hs l5 l4
  refine⟨t,o,_,D2,rfl,⟨rfl,h2,p2,p3.trans g3,l6.1,l6.2,?_,⟨by show 1≤L.2.1+1;omega,by show L.2.1+1≤_;omega⟩,⟨Int.le_refl _,by show(0:Int)≤_;omega⟩,rfl⟩,act⟩
  show 1-L.1=0∨1-L.1=1
  omega
end Go.Ab.Gi
namespace Go.Ab.Gi
open Go.Ab Go.RowKit
theorem Wa {k}{o:List mh}(hk:o.length<k)(ho:o.length≤1000000):∃b,FJ k o=some b∧(b=false↔∀x∈o,x.2.1≠16):=by
 have key:∀(c:Nat) (n i:Nat),i+c=o.length→c<n→∃x,JN k n o (o.length:Int) (i:Int)=some x∧((∃j:Nat,x=.inr (j:Int)∧∃y∈o,y.2.1=16)∨(x=.inl ()∧∀j,i≤j→j<o.length→(o.getD j (0,0,0,0,0,0,0,0)).2.1≠16)):=by
  intro c
  induction c with
  |zero=>
   intro n i h1 h2
   obtain⟨n,rfl⟩:∃m,n=m+1:=⟨n-1,by omega⟩
   refine⟨.inl (),?_,by grind⟩
   show wq k _ o _ _=_
   unfold wq
   rw[ab (by omega)]
   rfl
  |succ c ih=>
   intro n i h1 h2
   obtain⟨n,rfl⟩:∃m,n=m+1:=⟨n-1,by omega⟩
   have hi:i<o.length:=by omega
   by_cases e:(o.getD i (0,0,0,0,0,0,0,0)).2.1=16
   ·refine⟨.inr (i:Int),?_,by grind⟩
    show wq k _ o _ _=_
    unfold wq Oc
    rw[aa (by omega),fq (by omega) (by omega),ao,aa e]
    rfl
   ·obtain⟨x,g1,g2⟩:=ih n (i+1) (by omega) (by omega)
    refine⟨x,?_,?_⟩
    ·show wq k _ o _ _=_
     unfold wq Oc
     rw[aa (by omega),fq (by omega) (by omega),ao,ab e,qJ hi (by omega)]
     exact g1
    grind
 obtain⟨x,g1,g2⟩:=key o.length k 0 (by omega) hk
 unfold FJ Wb Wc
 have g1:JN k k o (o.length:Int) 0=some x:=g1
 rw[g1]
 rcases g2 with⟨j,rfl,y,hy,e⟩|⟨rfl,g⟩
 ·refine⟨true,?_,fun e'=>(by cases e'),by grind⟩
  show some (decide ((j:Int)≥0))=_
  rw[aa (by omega)]
 ·refine⟨false,rfl,fun _ y hy=>?_,fun _=>rfl⟩
  obtain⟨j,hj,e⟩:=List.mem_iff_getElem.1 hy
  have:=g j (Nat.zero_le _) hj
  rw[List.getD_eq_getElem?_getD,List.getElem?_eq_getElem hj] at this
  rw[←e]
  exact this
theorem yWt k n (z):AW k (n+1) z=AM k (AW k n) z:=rfl
def FK (m:FB×Int)(x:Bool)(a:Int):List mh:=bif decide (m.2=0)&& !x then[(a,m.1)] else[]
section
variable {k:Nat} {rec:JG} {ev n i:Int} {bG:List lr} {R:VY} {c c2:N1} {D:mi} {G:tE} {L:qz} {outs:List (List mh)} {asked:List mh}
theorem Wd {a b e}{o:List mh}{G':tE}{L':qz}{D':mi}{m:FB×Int}{x}(hi:i<n)(h0:0≤i)(hl:i<bG.length)(ha:bG.getD i.toNat d0=(1,a,b,e))
  (hdo:JM k G L D a b=some (o,G',L',D')) (hm:nM k b=some m) (hx:FJ k o=some x) (hd:AV k G' L' D'=some (false,G',L',D')) (ho:outs.length≤1000000) (hq:asked.length≤1000000):
  AM k rec (.inl (zI ev bG n i R c D G L c2 outs asked))=rec (.inl (zI ev bG n (zA (i+1)) R c D' G' L' c2 (outs++[o]) (asked++FK m x a))):=by
 have r1:zO (asked.length+1) 64=true:=qT (by omega) (by omega)
 unfold AM FK
 dsimp only[zI]
 rw[aa hi,aj,fq h0 hl,aj]
 rw[show List.getD bG i.toNat (0,0,[],0,0)=(1,a,b,e) from ha]
 rw[aa rfl,aj,hdo,af,hm,af]
 cases decide (m.2=0) with
 |false=>
  simp
  rw[N2 ho,aj]
 |true=>
  rw[hx,af]
  cases x with
  |true=>
   simp
   rw[N2 ho,aj]
  |false=>
   cases decide ((o.length:Int)>0) with
   |true=>
    simp
    rw[r1,aj,N2 ho,aj]
   |false=>
    rw[hd,af]
    simp
    rw[r1,aj,N2 ho,aj]
end
def Od:mi:=(200000,[],0,[],0,0,0,false,false,0)
def wu (k:Nat)(r:qS):mi:=match rj k r Od 1 with
 |some (.inl x)=>x.2.1
 |_=>Od
structure Oe (k:Nat) (r:qS):Prop where
 new:We k 200000=some (.inl Od)
 is:∀ev,1≤ev→ev≤1000→rj k r Od ev=some (.inl (0,wu k r,kh r (gK r) ev,(0,1,0,false)))
 calm:(!(wu k r).2.2.2.2.2.2.2.1&& !(wu k r).2.2.2.2.2.2.2.2.1&&decide ((wu k r).1=200000)&&decide ((wu k r).2.1.length≤20000)&&decide ((wu k r).2.2.2.1.length≤20000))=true
theorem Oe.roomy {k r}(h:Oe k r)(w:AK r) ev:oY r ev 0 (gK r) (kh r (gK r) ev) (0,1,0,false) (wu k r):=by
 have c:=h.calm
 simp  at c
 obtain⟨⟨⟨⟨c1,c2⟩,c3⟩,c4⟩,c5⟩:=c
 exact⟨rfl,w.inv,⟨c1,c2,by omega,by omega,by omega⟩,c3,c4,c5,⟨.inl rfl,by decide,by decide,rfl⟩⟩
theorem vRj {k}(hk:1000≤k){r}(w:AK r)(om:Oe k r)(hd:V7 k r)(hq:∀s c u o e,mg k r (qD.st s) c=some (u,o,e)→c.2.1=9→u=s.st){ev}(aR:1≤ev∧ev≤1000)
  (bG:List lr) (hl:bG.length≤200) (JO:∀a∈bG,a.1=1) (gL:∀a∈bG,∃m,nM k a.2.2.1=some m) (Wg:∀s,yE r s→∀c u o e,mg k r (qD.st s) c=some (u,o,e)→o.length≤300)
  (I:Nat→qD→List (List mh)→List mh→Prop) (h0:I 0 (gK r) [] [])
  (hI:∀i s os q t o m x,i<bG.length→I i s os q→yE r s→nM k (bG.getD i d0).2.2.1=some m→AU k r s (bG.getD i d0).2.1 m t o→(x=false↔∀y∈o,y.2.1≠16)→I (i+1) t (os++[o]) (q++FK m x (bG.getD i d0).2.1)):
  ∃s os q,FL k r 200000 ev bG=some (os,q,s.t,s.B.1,s.B.2.1,s.B.2.2.1,s.B.2.2.2,s.pr,s.ho,s.m,s.ids,s.to,s.ov,true)∧yE r s∧I bG.length s os q:=by
 obtain⟨x,h1,h2⟩:=yZ (L:=fun n i (x:qD×tE×qz×mi×List (List mh)×List mh)=>AW k n (.inl (zI ev bG (bG.length:Int) i r (0,0,false,false) x.2.2.2.1 x.2.1 x.2.2.1 (0,0,false,false) x.2.2.2.2.1 x.2.2.2.2.2))) (N:=bG.length)
  (fun x=>.inr ((0,0,false,false),x.2.1,x.2.2.1,(x.2.2.2.1.1,x.2.2.2.1.2.2.1,x.2.2.2.1.2.2.2.2),x.2.2.2.1.2.1,x.2.2.2.1.2.2.2.1,(0,0,false,false),x.2.2.2.2.1,x.2.2.2.2.2))
  (fun i x => oY r ev i x.1 x.2.1 x.2.2.1 x.2.2.2.1 ∧ I i x.1 x.2.2.2.2.1 x.2.2.2.2.2 ∧ x.2.2.2.2.1.length = i ∧ x.2.2.2.2.2.length ≤ i) (fun n x _=>by
  exact (yWt k n _).trans (vEz (by omega))) (fun n i x hi hx=>by
  obtain⟨s,G,L,D,os,q⟩:=x
  obtain⟨hR,Wh,Wi,hql⟩:=hx
  have hR:oY r ev i s G L D:=hR
  have Wi:os.length=i:=Wi
  have hql:q.length≤i:=hql
  have cJ:=jK (d:=d0) hi
  obtain⟨m,hm⟩:=gL _ cJ
  have zi:=JO _ cJ
  obtain⟨a,ha⟩:∃a,bG.getD i d0=a:=⟨_,rfl⟩
  rw[ha] at hm zi
  obtain⟨t,o,L',D',g1,g2,g3⟩:=vI9 hk w.ok hd hq (N:=i) (by omega) hR (a:=a.2.1) (b:=a.2.2.1) hm
  have hol:o.length≤300:=by
   rcases g3 with⟨_,_,rfl⟩|⟨_,u,p,e,p1,⟨_,_,rfl⟩|⟨_,_,rfl⟩⟩
   ·simp
   ·simp
   ·exact Wg s hR.inv _ _ _ _ p1
  obtain⟨x,x1,x2⟩:=Wa (k:=k) (o:=o) (by omega) (by omega)
  have nk:bG.getD ((i:Nat):Int).toNat d0=(1,a.2.1,a.2.2.1,a.2.2.2):=by
   rw[ao,ha,←zi]
  have hIn:=hI i s os q t o m x hi Wh hR.inv (by rw[ha];exact hm) (by rw[ha];exact g3) x2
  rw[ha] at hIn
  refine⟨(t,kh r t ev,L',D',os++[o],q++FK m x a.2.1),?_,g2,hIn,?_,?_⟩
  ·refine(yWt k n _).trans ?_
   refine(Wd (k:=k) (n:=(bG.length:Int)) (i:=(i:Int)) (by omega) (by omega) (by omega) nk g1 hm x1 rfl (by omega) (by omega)).trans ?_
   rw[qJ hi (by omega)]
  ·show(os++[o]).length=i+1
   rw[List.length_append,Wi];rfl
  ·show(q++FK m x a.2.1).length≤i+1
   rw[List.length_append]
   unfold FK
   cases(decide (m.2=0)&& !x)
   ·simp;omega
   ·simp;omega) (n:=k) (s:=(gK r,kh r (gK r) ev,(0,1,0,false),wu k r,[],[])) (by omega) ⟨om.roomy w ev,h0,rfl,Nat.le_refl 0⟩
 obtain⟨s,G,L,D,os,q⟩:=x
 obtain⟨hR,Wh,_,_⟩:=h2
 have hg:G=kh r s ev:=hR.g
 subst hg
 refine⟨s,os,q,?_,hR.inv,Wh⟩
 unfold FL
 rw[om.new,af]
 dsimp only
 rw[om.is ev aR.1 aR.2,af]
 dsimp only
 refine(congrArg (fun z=>Option.bind z _) h1).trans ?_
 rfl
end Go.Ab.Gi
namespace Go.Ab.Gi
open Go.Ab Go.RowKit
theorem vOz {k}{r:qS}{s u:qu}{c:tv}{o:List yA}{e}(h:mg k r s c=some (u,o,e))(h9:c.2.1=9):u=s:=by
 unfold mg at h
 cases hm:tz k r s c with
 |none=>simp_all
 |some x=>
  cases hx:decide (x=0) with
  |false=>
   simp_all
  |true=>
   cases hq:Jz k s c.1 with
   |none=>simp_all
   |some y=>
    simp_all
theorem Wj {s t:qD}(h:s.st=t.st):s=t:=by
 obtain⟨a,⟨b1,b2,b3,b4⟩,c,d,e,f,g,i⟩:=s
 unfold qD.st at h
 simp_all
end Go.Ab.Gi
namespace Go.Ab.Gi
open Go.Ab Go.RowKit
theorem vS4 {r}(hr:jU r):V7 1000 r:=fun s hs c=>by
 obtain⟨t,o,e,h1,_,h2⟩:=VQ hr hs c
 exact⟨t,o,e,h1,h2.inv,fun h=>(h2.bad h).1⟩
theorem vHn {r}(hr:jU r):∀s,yE r s→∀c u o e,mg 1000 r (qD.st s) c=some (u,o,e)→o.length≤300:=fun s hs c u o e h=>by
 obtain⟨t,o',e',h1,_,h2⟩:=VQ hr hs c
 have:=h1.symm.trans h
 simp  at this
 rw[←this.2.1]
 have:=h2.few
 omega
def Wk (r:qS):Prop:=r=r0∨r=r1∨r=r2∨r=r3
theorem vU9 {r}(h:Wk r):Of 1000 r=some (gK r).st:=by
 rcases h with rfl|rfl|rfl|rfl<;>kernel_rfl
theorem vRs {r}(h:Wk r):Oe 1000 r:=by
 rcases h with rfl|rfl|rfl|rfl
 ·exact⟨by kernel_rfl,fun ev h1 h2=>by
   unfold rj
   rw[show AY 1000 r0=some true by kernel_rfl,af,aA,ak,ab (show¬ev<1 by omega),ak,ab (show¬ev>1000 by omega),ak]
   kernel_rfl,by kernel_rfl⟩
 ·exact⟨by kernel_rfl,fun ev h1 h2=>by
   unfold rj
   rw[show AY 1000 r1=some true by kernel_rfl,af,aA,ak,ab (show¬ev<1 by omega),ak,ab (show¬ev>1000 by omega),ak]
   kernel_rfl,by kernel_rfl⟩
 ·exact⟨by kernel_rfl,fun ev h1 h2=>by
   unfold rj
   rw[show AY 1000 r2=some true by kernel_rfl,af,aA,ak,ab (show¬ev<1 by omega),ak,ab (show¬ev>1000 by omega),ak]
   kernel_rfl,by kernel_rfl⟩
 ·exact⟨by kernel_rfl,fun ev h1 h2=>by
   unfold rj
   rw[show AY 1000 r3=some true by kernel_rfl,af,aA,ak,ab (show¬ev<1 by omega),ak,ab (show¬ev>1000 by omega),ak]
   kernel_rfl,by kernel_rfl⟩
end Go.Ab.Gi
namespace Go.Ab.Gi
open Go.Ab Go.RowKit
theorem Wl {l:List lr}(hb:∀a∈l,a.2.2.1.length≤140737488355328):∃b,Og 1000 l=some b∧(b=false→l.length≤100∧∀a∈l,a.2.2.1.length≤8000):=by
 have key:∀(c n i:Nat) (s:Nat),i+c=min l.length 200→c<n→s≤140737488355328*i→(∀j,j<i→(l.getD j d0).2.2.1.length≤s)→
   ∃t:Nat,FM 1000 n l (s:Int) (i:Int)=some (l,(t:Int))∧∀j,j<min l.length 200→(l.getD j d0).2.2.1.length≤t:=by
  intro c
  induction c with
  |zero=>
   intro n i s h1 h2 h3 h4
   obtain⟨n,rfl⟩:∃m,n=m+1:=⟨n-1,by omega⟩
   refine⟨s,?_,fun j hj=>h4 j (by omega)⟩
   show FN 1000 _ l (s:Int) (i:Int)=_
   unfold FN
   by_cases h:i<l.length
   ·rw[aa (show(i:Int)<l.length by omega),ab (by omega)]
    rfl
   ·rw[ab (by omega)]
    rfl
  |succ c ih=>
   intro n i s h1 h2 h3 h4
   obtain⟨n,rfl⟩:∃m,n=m+1:=⟨n-1,by omega⟩
   have hi:i<l.length:=by omega
   have hl:=hb _ (jK (d:=d0) hi)
   obtain ⟨t, g1, g2⟩ := ih n (i + 1) (s + (l.getD i d0).2.2.1.length) (by omega) (by omega) (by omega) (fun j hj=>by
    by_cases e:j=i
    ·subst e;omega
    ·have:=h4 j (by omega);omega)
   refine⟨t,?_,g2⟩
   show FN 1000 (FM 1000 n) l (s:Int) (i:Int)=_
   unfold FN
   rw[aa (show(i:Int)<l.length by omega),aa (show(i:Int)<200 by omega),fq (by omega) (by omega),ao]
   simp only[aj]
   have e:(s:Int)+((l.getD i (0,0,[],0,0)).2.2.1.length:Int)=((s+(l.getD i d0).2.2.1.length:Nat):Int):=by rw[Int.natCast_add];rfl
   rw[e,zR (by omega) (by omega),qJ (N:=200) (by omega) (by omega)]
   exact g1
 obtain⟨t,g1,g2⟩:=key (min l.length 200) 1000 0 0 (by omega) (by omega) (by omega) (fun j hj=>absurd hj (Nat.not_lt_zero j))
 unfold Og
 have g1:FM 1000 1000 l 0 0=some (l,(t:Int)):=g1
 rw[g1]
 simp only[af]
 by_cases h:(l.length:Int)>100
 ·rw[aa h]
  exact⟨true,rfl,fun e=>by cases e⟩
 ·rw[ab h]
  refine⟨_,rfl,fun e=>⟨by omega,fun a ha=>?_⟩⟩
  have e:=df e
  obtain⟨j,hj,rfl⟩:=List.mem_iff_getElem.1 ha
  have:=g2 j (by omega)
  rw[List.getD_eq_getElem?_getD,List.getElem?_eq_getElem hj] at this
  have:(l[j]).2.2.1.length≤t:=this
  omega
theorem Wm (ev:Int)(l:List lr)(hl:l.length≤100)(b0:Int×Int×Int×Int)(r1:List (Int×Int)):
  ∃A,AZ 1000 1000 ev l 0 b0 r1 []=some (ev,b0,r1,A)∧A.length≤l.length∧∀a∈A,a∈l∧a.1=1:=by
 obtain ⟨A, h1, h2, h3⟩ := yZ (L := fun n i (A : List lr) => AZ 1000 n ev l i b0 r1 A) (N := l.length) (fun A => (ev, b0, r1, A)) (fun i A => A.length ≤ i ∧ ∀ a ∈ A, a ∈ l ∧ a.1 = 1) (fun n A _=>by
  show A0 1000 _ ev l (l.length:Int) b0 r1 A=_
  unfold A0
  rw[ab (Int.lt_irrefl _)]
  rfl) (fun n i A hi hA=>by
  have hA1:=hA.1
  have eH:∀y,A0 1000 (AZ 1000 n) ev l (i:Int) b0 r1 A=y→AZ 1000 (n+1) ev l (i:Int) b0 r1 A=y:=fun _ e=>e
  have Ct:zB (i:Int) l.length=true:=fq (by omega) (by omega)
  by_cases h:(l.getD i (0,0,[],0,0)).1=1
  ·refine⟨A++[l.getD i d0],eH _ ?_,by rw[List.length_append];simp;omega,fun a ha=>?_⟩
   ·unfold A0
    rw[aa (show(i:Int)<l.length by omega),Ct,ao,aa h]
    simp only[aj]
    rw[qT (by omega) (by omega),qJ hi (by omega)]
    rfl
   ·rcases List.mem_append.1 ha with ha|ha
    ·exact hA.2 a ha
    ·rw[List.mem_singleton.1 ha];exact⟨jK hi,h⟩
  ·refine⟨A,eH _ ?_,by omega,hA.2⟩
   unfold A0
   rw[aa (show(i:Int)<l.length by omega),Ct,ao,ab h,qJ hi (by omega)]
   rfl) (n:=1000) (s:=[]) (by omega) ⟨Nat.le_refl 0,fun a ha=>absurd ha List.not_mem_nil⟩
 exact⟨A,h1,h2,h3⟩
inductive tH (r:qS):qD→List lr→qD→List (List yA)→Prop
 |nil (s:qD):tH r s [] s []
 |cons {s t u:qD} {a:lr} {A:List lr} {o:List yA} {os:List (List yA)} (h:AU 1000 r s a.2.1 (tD a.2.2.1) t o) (hi:yE r s) (g:tH r t A u os):tH r s (a::A) u (o::os)
theorem tH.snoc {r:qS}{s t u:qD}{a:lr}{A:List lr}{o:List yA}{os:List (List yA)}(g:tH r s A t os)(ht:yE r t)(h:AU 1000 r t a.2.1 (tD a.2.2.1) u o):tH r s (A++[a]) u (os++[o]):=by
 induction g with
 |nil s=>exact .cons h ht (.nil _)
 |cons h' hi _ ih=>exact .cons h' hi (ih ht h)
theorem Wn (o:List yA)(h:o.length≤300):vn 1000 o o=some true:=by
 rw[UQ (by omega) (by omega),aa rfl]
theorem vZj {r:qS}(hr:jU r){A:List lr}(hA:A.length≤900)(hlen:∀a∈A,a.2.2.1.length≤8000){s t:qD}{os:List (List yA)}(ho:os.length=A.length)(g:tH r s A t os)(hs:yE r s)(b3)(r5):
  A2 1000 1000 0 (r.1,r.2.2) r.2.1 A b3 os r5 s.st=some (.inl (b3,os,r5,t.st)):=by
 obtain ⟨u, h1, h2, h3⟩ := yZ (L := fun n i (s : qD) => A2 1000 n i (r.1, r.2.2) r.2.1 A b3 os r5 s.st) (N := A.length) (fun u => .inl (b3, os, r5, qD.st u)) (fun i u => tH r u (A.drop i) t (os.drop i) ∧ yE r u) (fun n u _=>by
  show wv 1000 _ (A.length:Int) (r.1,r.2.2) r.2.1 A b3 os r5 u.st=_
  unfold wv
  rw[ab (Int.lt_irrefl _)]
  rfl) (fun n i u hi hu=>by
  obtain⟨pH,og⟩:=hu
  have bP:i<os.length:=by omega
  have eA:A.drop i=A.getD i d0::A.drop (i+1):=by rw[List.drop_eq_getElem_cons hi,List.getD_eq_getElem?_getD,List.getElem?_eq_getElem hi];rfl
  have eO:os.drop i=os.getD i []::os.drop (i+1):=by rw[List.drop_eq_getElem_cons bP,List.getD_eq_getElem?_getD,List.getElem?_eq_getElem bP];rfl
  have cJ:=hlen _ (jK (d:=d0) hi)
  rw[eA,eO] at pH
  cases pH with
  |@cons _ v _ _ _ _ _ h _ g=>
  have eH:∀y,wv 1000 (A2 1000 n) (i:Int) (r.1,r.2.2) r.2.1 A b3 os r5 u.st=y→A2 1000 (n+1) (i:Int) (r.1,r.2.2) r.2.1 A b3 os r5 u.st=y:=fun _ e=>e
  have b1:zB (i:Int) A.length=true:=fq (by omega) (by omega)
  have b2:zB (i:Int) os.length=true:=fq (by omega) (by omega)
  have cJ:(A.getD i (0,0,[],0,0)).2.2.1.length≤8000:=cJ
  have gL:JF 1000 (A.getD i (0,0,[],0,0)).2.2.1=some (tD (A.getD i d0).2.2.1):=vM0 (by decide) cJ (by omega)
  obtain⟨m,em⟩:∃m,tD (A.getD i d0).2.2.1=m:=⟨_,rfl⟩
  obtain⟨a,ea⟩:∃a,(A.getD i (0,0,[],0,0)).2.1=a:=⟨_,rfl⟩
  obtain⟨o,eo⟩:∃o,os.getD i []=o:=⟨_,rfl⟩
  have h:AU 1000 r u a m v o:=by rw[←em,←ea,←eo];exact h
  rw[em] at gL
  have er:((r.1,r.2.2).1,r.2.1,(r.1,r.2.2).2)=r:=rfl
  have w:=qJ hi (by omega)
  have lt:decide ((i:Int)<(A.length:Int))=true:=aa (by omega)
  rcases h with⟨hm,rfl,rfl⟩|⟨hm,x,p,e,p1,hp⟩
  ·refine⟨v,eH _ ?_,g,og⟩
   unfold wv
   simp only[lt,b1,ao,gL,ab hm,bM,aj,ak,af,Fm,ea,b2,eo]
   rw[Wn _ (by simp)]
   simp only[af,aA,ak,w]
  ·obtain⟨t',o',e',q1,q2,q3⟩:=VQ hr og (a,m.1)
   have:=q1.symm.trans p1
   simp only[Option.some.injEq,Prod.mk.injEq] at this
   obtain⟨rfl,rfl,rfl⟩:=this
   have hf:=q3.few
   rcases hp with⟨he,rfl,rfl⟩|⟨he,hx,rfl⟩
   ·refine⟨v,eH _ ?_,g,og⟩
    have et:=(q3.bad he).1
    unfold wv
    simp only[lt,b1,ao,gL,aa hm,aj,af,ea,b2,eo,er,q2,ab he,bM,Fm]
    rw[Wn _ (by simp)]
    simp only[af,aA,ak,w,et]
   ·have et:=Wj hx
    subst et
    refine⟨t',eH _ ?_,g,q3.inv⟩
    unfold wv
    simp only[lt,b1,ao,gL,aa hm,aj,af,ea,b2,eo,er,q2,aa he,aA,ak]
    rw[Wn _ (by omega)]
    simp only[af,aA,ak,w]) (n:=1000) (s:=s) (by omega) ⟨g,hs⟩
 rw[List.drop_length,List.drop_of_length_le (by omega)] at h2
 cases h2
 exact h1
theorem Wo {k:Nat}(a:Int):∃r,JP k a=some r∧AK r∧Wk r:=by
 unfold JP
 cases decide (yJ .i64 a 3=1) with
 |true=>exact⟨r1,rfl,vXv,.inr (.inl rfl)⟩
 |false=>
  cases decide (yJ .i64 a 3=2) with
  |true=>exact⟨r2,rfl,vXg,.inr (.inr (.inl rfl))⟩
  |false=>
   cases decide (yJ .i64 a 3=3) with
   |true=>exact⟨r3,rfl,VU,.inr (.inr (.inr rfl))⟩
   |false=>exact⟨r0,rfl,vWi,.inl rfl⟩
theorem vL5 (a ev:Int)(l:List lr)(hb:∀a∈l,a.2.2.1.length≤140737488355328):Oh 1000 a ev l=some true:=by
 unfold Oh
 obtain⟨b,gC,Wp⟩:=Wl hb
 rw[gC]
 simp only[af]
 cases b with
 |true=>rfl
 |false=>
 obtain⟨hl,hlen⟩:=Wp rfl
 simp only[ak]
 by_cases h1:ev<1
 ·rw[aa h1];rfl
 rw[ab h1]
 by_cases h2:ev>100
 ·rw[aa h2];rfl
 rw[ab h2]
 obtain⟨r,hr,w,hw⟩:=Wo (k:=1000) a
 simp only[ak]
 rw[hr]
 simp only[af]
 obtain⟨A,a1,a2,a3⟩:=Wm ev l hl (r.1,r.2.2) r.2.1
 rw[a1]
 simp only[af]
 have hA:∀x∈A,x.2.2.1.length≤8000:=fun x hx=>hlen x (a3 x hx).1
 obtain⟨s,os,q,p1,p2,p3,p4⟩:=vRj (k:=1000) (by decide) w (vRs hw) (vS4 w.ok) (fun s c u o e h h9=>vOz h h9) (ev:=ev) (by omega) A (by omega) (fun x hx=>(a3 x hx).2)
  (fun x hx=>⟨_,yPk (by decide) (hA x hx) (by have:=hA x hx;omega)⟩) (vHn w.ok)
  (fun i s os _=>tH r (gK r) (A.take i) s os∧os.length=i) ⟨.nil _,rfl⟩
  (fun i s os q t o m x hi hI hs hm ha _=>by
   have cJ:=hA _ (jK (d:=d0) hi)
   have em:m=tD (A.getD i d0).2.2.1:=Option.some.inj (hm.symm.trans (yPk (by decide) cJ (by omega)))
   subst em
   refine⟨?_,by rw[List.length_append,hI.2];rfl⟩
   rw[←ft A i d0 hi]
   exact hI.1.snoc hs ha)
 rw[List.take_length] at p3
 have JQ:FL 1000 (r.1,r.2.1,r.2.2) 200000 ev A=_:=p1
 have rW:Of 1000 (r.1,r.2.1,r.2.2)=some (gK r).st:=vU9 hw
 rw[JQ]
 simp only[af]
 rw[rW]
 simp only[af]
 rw[aa (show(os.length:Int)=(A.length:Int) by omega),vZj w.ok (by omega) hA p4 p3 w.inv]
 simp only[aA,ak,af,aj]
 have bW:JC 1000 s.st s.st=some true:=vRr w.ok p2
 have hk:Wq 1000=some true:=by kernel_rfl
 refine(congrArg (fun z=>Option.bind z _) bW).trans ?_
 simp only[af,aj]
 rw[hk]
 rfl
end Go.Ab.Gi
