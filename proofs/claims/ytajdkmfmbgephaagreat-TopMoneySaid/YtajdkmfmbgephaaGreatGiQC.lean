/- Plain proofs, part 2. -/
import Derived.Test.YtajdkmfmbgephaaGreatGiQB
set_option linter.unusedVariables false
set_option linter.unusedSimpArgs false
set_option maxRecDepth 100000
namespace Go.Ab.Gi
open Go.Ab Go.RowKit
theorem yQb (l:List gC)(b0)(os:List (List wU))(q:List wU)(hq:q.length≤100):
  wg 1000 1000 l 0 0 b0 os q=some (l,zA (zL fV q),b0,os,q):=by
 obtain ⟨x, h1, h2⟩ := vU (L := fun n i (x : Int) => wg 1000 n l x i b0 os q) (N := q.length) (fun x => (l, x, b0, os, q)) (fun i x => x = zA (zL fV (q.take i))) (fun n x _=>by
  show Cg 1000 _ l x (q.length:Int) b0 os q=_
  unfold Cg
  rw[ak (Int.lt_irrefl _)]
  rfl) (fun n i x hi hx=>by
  obtain⟨c,ec⟩:∃c,q.getD i (0,0,0,0,0,0,0,0)=c:=⟨_,rfl⟩
  refine⟨zA (x+fV c),?_,?_⟩
  ·show Cg 1000 (wg 1000 n) l x (i:Int) b0 os q=_
   unfold Cg
   rw[ah (show(i:Int)<(q.length:Int) by omega),jQ (by omega) (by omega),aF,ec,qM hi (by omega)]
   simp only[an]
   unfold fV
   by_cases h:c.2.1=10
   ·rw[ah h,if_pos h]
    rfl
   ·rw[ak h,if_neg h]
    by_cases h2:c.2.1=11
    ·rw[ah h2,if_pos h2]
     rfl
    ·rw[ak h2,if_neg h2,hx,Int.add_zero,qH (Z3 _) (Z4 _)]
     rfl
  ·show zA (x+fV c)=zA (zL fV (q.take (i+1)))
   rw[←jM q i (0,0,0,0,0,0,0,0) hi,ec,ee,hx,vAl]
   show zA (_+fV c)=zA (_+(fV c+0))
   rw [Int.add_zero]) (n := 1000) (s := 0) (by omega) (by
  rw[List.take_zero]
  exact(qH (x:=0) (by decide) (by decide)).symm)
 have h1:wg 1000 1000 l 0 0 b0 os q=some (l,x,b0,os,q):=h1
 rw[h1,h2,List.take_length]
theorem vFn (l:List gC)(hl:l.length≤100)(n:Int)(b0)(os:List (List wU))(q:List wU):
  pR 1000 1000 l n 0 b0 os q=some (.inr true)∨(pR 1000 1000 l n 0 b0 os q=some (.inl (n,b0,os,q))∧∀a∈l,a.1=1):=by
 have key:∀(c m i:Nat),i+c=l.length→c<m→(∀j,j<i→(l.getD j d0).1=1)→
   pR 1000 m l n (i:Int) b0 os q=some (.inr true)∨(pR 1000 m l n (i:Int) b0 os q=some (.inl (n,b0,os,q))∧∀a∈l,a.1=1):=by
  intro c
  induction c with
  |zero=>
   intro m i h1 h2 h3
   obtain⟨m,rfl⟩:∃x,m=x+1:=⟨m-1,by omega⟩
   refine .inr ⟨?_,fun a ha=>?_⟩
   ·show Ch 1000 _ l n (i:Int) b0 os q=_
    unfold Ch
    rw[ak (show¬(i:Int)<(l.length:Int) by omega)]
    rfl
   ·obtain⟨j,hj,rfl⟩:=List.mem_iff_getElem.1 ha
    have:=h3 j (by omega)
    rw[List.getD_eq_getElem?_getD,List.getElem?_eq_getElem hj] at this
    exact this
  |succ c ih=>
   intro m i h1 h2 h3
   obtain⟨m,rfl⟩:∃x,m=x+1:=⟨m-1,by omega⟩
   have hi:i<l.length:=by omega
   have ct:pR 1000 (m+1) l n (i:Int) b0 os q=Ch 1000 (pR 1000 m) l n (i:Int) b0 os q:=rfl
   rw[ct]
   unfold Ch
   rw[ah (show(i:Int)<(l.length:Int) by omega),jQ (by omega) (by omega),aF,qM hi (by omega)]
   simp only[an]
   by_cases h:(l.getD i (0,0,[],0,0)).1=1
   ·rw[ah h]
    exact ih m (i+1) (by omega) (by omega) fun j hj=>by
     by_cases e:j=i
     ·subst e;exact h
     ·exact h3 j (by omega)
   ·rw[ak h]
    exact .inl rfl
 exact key l.length 1000 0 (by omega) (by omega) fun j hj=>absurd hj (Nat.not_lt_zero j)
def Gg (s:zO):AC:=(List.range s.B.1.length).map fun j=>(s.B.1.getD j ad).1
theorem qXg (g:Nat→Int):∀n,zL (fun x=>x) ((List.range n).map g)=zW g n
 |0=>rfl
 |n+1=>by
  rw[List.range_succ,List.map_append,ee,qXg g n]
  show zW g n+(g n+0)=zW g n+g n
  omega
theorem vHl {r:zZ}{s:zO}(h:qU r s)(n:Int)(os:List (List wU))(q:List wU):
  wh 1000 1000 n 0 (vK s.st true) os q []=some (n,vK s.st true,os,q,Gg s):=by
 have j8:=h.bk.n6
 have e:(vK s.st true).2.1=s.B.1:=rfl
 obtain ⟨x, h1, h2⟩ := vU (L := fun m j (x : AC) => wh 1000 m n j (vK s.st true) os q x) (N := s.B.1.length) (fun x => (n, vK s.st true, os, q, x)) (fun j x => x = (List.range j).map fun j => (s.B.1.getD j ad).1) (fun m x _=>by
  show Ck 1000 _ n (s.B.1.length:Int) (vK s.st true) os q x=_
  unfold Ck
  rw[e,ak (Int.lt_irrefl _)]
  rfl) (fun m j x hj hx=>by
  refine⟨x++[(s.B.1.getD j ad).1],?_,?_⟩
  ·show Ck 1000 (wh 1000 m) n (j:Int) (vK s.st true) os q x=_
   unfold Ck
   have hl:x.length=j:=by rw[hx];simp
   rw[e,ah (show(j:Int)<s.B.1.length by omega),qL,ah hj,qY (by omega) (by omega)]
   simp only[an,aF]
   rw[qM hj (by omega)]
  ·rw[hx,List.range_succ,List.map_append]
   rfl) (n:=1000) (s:=[]) (by omega) rfl
 have h1:wh 1000 1000 n 0 (vK s.st true) os q []=some (n,vK s.st true,os,q,x):=h1
 rw[h1,h2]
 rfl
theorem yZd (a:Int)(l:List gC)(hb:∀a∈l,a.2.2.1.length≤140737488355328)(hw:∀a∈l,QB a.2.1∧a.2.2.2.2<9223372036854775808):Kn 1000 a l=some true:=by
 unfold Kn
 obtain⟨b,eN,Kl⟩:=vDa hb
 rw[eN]
 simp only[aj]
 cases b with
 |true=>rfl
 |false=>
 obtain⟨hl,hlen⟩:=Kl rfl
 simp only[ao]
 obtain⟨r,hr,w,hf⟩:=vLl (k:=1000) a
 rw[hr]
 simp only[aj]
 obtain⟨i6,FZ,hR,az,QJ⟩:=fresh hf w
 have fw:lK 1000 r=some true:=by rcases hf with rfl|rfl|rfl|rfl<;>kernel_rfl
 obtain⟨os,q,S,up,p1,p2,p3⟩:=yRf (k:=1000) (by decide) w.ok fw w.inv i6 w.new (ev:=20) (by decide) FZ (QI hf).new ((QI hf).is 20 (by decide) (by decide)) hR az QJ (acts:=l) hl
  (fun x hx=>⟨(hw x hx).1,⟨by have:=hlen x hx;omega,hb x hx⟩,(hw x hx).2⟩)
 rw[p1]
 simp only[aj]
 refine(congrArg (fun z=>Option.bind z _) (yQb l (vK S up) os q (by omega))).trans ?_
 simp only[aj]
 rcases vFn l hl (zA (zL fV q)) (vK S up) os q with h|⟨h,aM⟩
 ·refine(congrArg (fun z=>Option.bind z _) h).trans ?_
  rfl
 ·refine(congrArg (fun z=>Option.bind z _) h).trans ?_
  simp only[aj]
  obtain⟨Y6,s,hs,hS,pN⟩:=p3 aM
  subst Y6 hS
  have ht:=hs.tot
  have j8:=hs.bk.n6
  have D7:zL (fun x=>x) (Gg s)=s.to:=(qXg _ _).trans hs.sum
  have ME:∀x∈Gg s,-9223372036854775808≤x∧x<9223372036854775808:=by
   intro x hx
   obtain⟨j,hj,rfl⟩:=List.mem_map.1 hx
   have:=mG.1 (hs.bk.acct j (List.mem_range.1 hj))
   have:-4611686018427387904<(s.B.1.getD j ad).1∧(s.B.1.getD j ad).1<4611686018427387904:=this.1
   omega
  have hln:(Gg s).length=s.B.1.length:=by simp[Gg]
  refine(congrArg (fun z=>Option.bind z _) (vHl hs (zA (zL fV q)) os q)).trans ?_
  simp only[aj]
  rw[vFe (by omega) (by omega) ME,D7,pN,qH (by omega) (by omega)]
  have e:Kj s.to=(s.to,true):=by
   unfold Kj
   rw[if_neg (by omega)]
  simp only[aj]
  rw[e]
  have hz:=yWq hs
  have hk:QK 1000=some true:=by kernel_rfl
  have e1:decide (s.to=s.to)=true:=ah rfl
  show(bif true then bif true then bif decide (s.to=s.to) then bif decide (s.to=s.to) then(yt 1000 s.B.1 s.B.2.1 s.B.2.2.1 s.B.2.2.2).bind _ else _ else _ else _ else _)=some true
  rw[e1,hz]
  simp only[aj,an]
  rw[hk]
  rfl
end Go.Ab.Gi
