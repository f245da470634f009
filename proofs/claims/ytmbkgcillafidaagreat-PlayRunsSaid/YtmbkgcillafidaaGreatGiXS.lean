/- part 5 -/
import Derived.Test.YtmbkgcillafidaaGreatGiXSa
set_option linter.unusedVariables false
set_option maxRecDepth 100000
namespace Go.Ab.Gi
def vj (k:Nat)(a0:wZ):Option (Bool×wZ):=
 cond (!a0.2.2.2.2.2.2.2.2.1) (some (false,(fL a0 ((zA (a0.2.2.2.2.2.1+1)),a0.2.2.2.2.2.2))))<|cond (decide (a0.2.2.2.2.2.1<a0.2.2.2.2.2.2.1)) (some (false,(fL a0 ((zA (a0.2.2.2.2.2.1+1)),a0.2.2.2.2.2.2))))<|cond ((decide (0≤(zA (a0.2.2.1+(yI true (yI false a0.2.2.2.2.2.2.2.1 0) (zA ((a0.1.length : Int) - a0.2.2.1)))))))&&(decide ((zA (a0.2.2.1+(yI true (yI false a0.2.2.2.2.2.2.2.1 0) (zA ((a0.1.length : Int) - a0.2.2.1)))))≤(a0.1.length : Int)))) (cond ((decide (0≤(zA (a0.2.2.2.1+(yI true (zA ((yI false a0.2.2.2.2.2.2.2.1 0)-(yI true (yI false a0.2.2.2.2.2.2.2.1 0) (zA ((a0.1.length:Int)-a0.2.2.1))))) (zA ((a0.2.1.length:Int)-a0.2.2.2.1)))))))&&(decide ((zA (a0.2.2.2.1+(yI true (zA ((yI false a0.2.2.2.2.2.2.2.1 0)-(yI true (yI false a0.2.2.2.2.2.2.2.1 0) (zA ((a0.1.length:Int)-a0.2.2.1))))) (zA ((a0.2.1.length:Int)-a0.2.2.2.1)))))≤(a0.2.1.length:Int)))) (some (true,(List.take ((zA (a0.2.2.1+(yI true (yI false a0.2.2.2.2.2.2.2.1 0) (zA ((a0.1.length:Int)-a0.2.2.1))))).toNat-0) a0.1),(List.take ((zA (a0.2.2.2.1+(yI true (zA ((yI false a0.2.2.2.2.2.2.2.1 0)-(yI true (yI false a0.2.2.2.2.2.2.2.1 0) (zA ((a0.1.length:Int)-a0.2.2.1))))) (zA ((a0.2.1.length:Int)-a0.2.2.2.1))))).toNat-0) a0.2.1),(zA (a0.2.2.1+(yI true (yI false a0.2.2.2.2.2.2.2.1 0) (zA ((a0.1.length:Int)-a0.2.2.1))))),(zA (a0.2.2.2.1+(yI true (zA ((yI false a0.2.2.2.2.2.2.2.1 0)-(yI true (yI false a0.2.2.2.2.2.2.2.1 0) (zA ((a0.1.length:Int)-a0.2.2.1))))) (zA ((a0.2.1.length:Int)-a0.2.2.2.1))))),(vX5 a0 true))) none) none
def qQi (k:Nat)(a0:wZ)(a1:Int):Option (Int×wZ):=
 cond a0.2.2.2.2.2.2.2.2.2 (some (11,a0))<|cond (decide (a1<0)) (some (1,a0))<|cond (decide (a1>1)) (some (1,a0))<|(vj k a0).bind fun x0=>cond x0.1 (some (11,x0.2))<|cond (decide (a1=0)) (cond (decide (a1=0)) (some (0,[],x0.2.2.1,0,x0.2.2.2.2))<|cond (decide (a1=1)) (some (0,[],x0.2.2.1,x0.2.2.2.1,0,x0.2.2.2.2.2)) none)<|cond (decide (a1=1)) (cond (decide (a1=0)) (some (0,x0.2.1,[],0,x0.2.2.2.2))<|cond (decide (a1=1)) (some (0,x0.2.1,[],x0.2.2.2.1,0,x0.2.2.2.2.2)) none) none
def Hl (k:Nat)(a0:wZ)(a1:Int)(a2:AC):Option (Int×wZ):=
 cond a0.2.2.2.2.2.2.2.2.2 (some (11,a0))<|cond (decide (a1<0)) (some (1,a0))<|cond (decide (a1>1)) (some (1,a0))<|cond (decide (a1=0)) (cond (decide ((a2.length:Int)>(zA (a0.2.2.2.2.1-(a0.1.length:Int))))) (some (3,a0))<|(vj k a0).bind fun x0=>cond x0.1 (some (11,x0.2))<|cond (decide (a1=0)) (cond (zL (0+x0.2.1.length) 1) (cond (zL (x0.2.1.length+a2.length) 1) (cond (decide (a1=0)) (some (0,(x0.2.1++a2),x0.2.2))<|cond (decide (a1=1)) (some (0,x0.2.1,(x0.2.1++a2),x0.2.2.2)) none) none) none)<|cond (decide (a1=1)) (cond (zL (0+x0.2.2.1.length) 1) (cond (zL (x0.2.2.1.length+a2.length) 1) (cond (decide (a1=0)) (some (0,(x0.2.2.1++a2),x0.2.2))<|cond (decide (a1=1)) (some (0,x0.2.1,(x0.2.2.1++a2),x0.2.2.2)) none) none) none) none)<|cond (decide (a1=1)) (cond (decide ((a2.length:Int)>(zA (a0.2.2.2.2.1-(a0.2.1.length:Int))))) (some (3,a0))<|(vj k a0).bind fun x1=>cond x1.1 (some (11,x1.2))<|cond (decide (a1=0)) (cond (zL (0+x1.2.1.length) 1) (cond (zL (x1.2.1.length+a2.length) 1) (cond (decide (a1=0)) (some (0,(x1.2.1++a2),x1.2.2))<|cond (decide (a1=1)) (some (0,x1.2.1,(x1.2.1++a2),x1.2.2.2)) none) none) none)<|cond (decide (a1=1)) (cond (zL (0+x1.2.2.1.length) 1) (cond (zL (x1.2.2.1.length+a2.length) 1) (cond (decide (a1=0)) (some (0,(x1.2.2.1++a2),x1.2.2))<|cond (decide (a1=1)) (some (0,x1.2.1,(x1.2.2.1++a2),x1.2.2.2)) none) none) none) none) none
def CE (k:Nat)(a0:wZ):Option (Int×wZ):=
 cond a0.2.2.2.2.2.2.2.2.2 (some (11,a0))<|(vj k a0).bind fun x0=>cond x0.1 (some (11,x0.2))<|some (0,x0.2.1,x0.2.2.1,(x0.2.1.length:Int),(x0.2.2.1.length:Int),x0.2.2.2.2.2)
def Hn (k:Nat)(a0:wZ)(a1 a2:Int)(a3:AC):Option (Int×wZ):=
 (yz k [a1]).bind fun x0=>cond (zL (x0.length+a3.length) 1) ((MD k (x0++a3)).bind fun x1=>cond (!x1.2) (some (10,a0))<|(qPb k a0).bind fun x2=>cond (decide (x1.1.length>x2)) (some (10,a0))<|cond (decide (a1>4611686018427387904)) (some (10,a0))<|(qQi k a0 a2).bind fun x3=>cond (decide (x3.1=0)) ((Hl k x3.2 a2 x1.1).bind fun x4=>cond (decide (x4.1=0)) ((CE k x4.2).bind fun x5=>some (x5.1,x5.2))<|some (x4.1,x4.2))<|cond (decide (x3.1=0)) ((CE k x3.2).bind fun x6=>some (x6.1,x6.2))<|some (x3.1,x3.2)) none
def yBd (k:Nat)(a0:wZ)(a1:AC):Option ((AC×EQ×Int×wZ×wA)⊕(AC×EQ×Int×wZ)):=
 (NA k a0).bind fun x0=>cond x0.2.2.2.2 (some (.inl (x0.2.2.1,x0.2.2.2.1,0,a0,x0.1,x0.2.1,(x0.2.2.2.1.length:Int),true)))<|(Hn k a0 1 0 a1).bind fun x1=>cond (!(decide (x1.1=0))) (some (.inr ([],[],x1.1,x1.2)))<|cond (zL (0+a1.length) 1) (some (.inl (a1,[],0,x1.2,1,0,0,false))) none
def Sr (k:Nat)(a0:AC):Option (AC×AC×Bool):=
 cond (decide ((a0.length:Int)<8)) (some ([],[],false))<|cond (decide (8≤(a0.length : Int))) ((KP k (List.take 8 a0)).bind fun x0=>cond (decide (x0<0)) (some ([],[],false))<|cond (decide (x0>(zA (Int.tdiv (zA ((a0.length:Int)-8)) 8)))) (some ([],[],false))<|cond ((decide (8≤(zA (8+(zA (8 * x0))))))&&(decide ((zA (8+(zA (8 * x0))))≤(a0.length : Int)))) ((xR k (qS a0 8 ((zA (8+(zA (8*x0)))).toNat-8))).bind fun x1=>cond ((decide (0≤(zA (8+(zA (8*x0))))))&&(decide ((zA (8+(zA (8*x0))))≤(a0.length:Int)))) (some (x1.1,(List.drop (zA (8+(zA (8*x0)))).toNat a0),true)) none) none) none
def Az (k:Nat)(a0:jB):Option (AC×jB):=
 (Sr k a0.1).bind fun x0=>cond a0.2 (some (x0.1,x0.2))<|some (x0.1,x0.2.1,false)
def we (k:Nat)(a0:jB)(a1:Int):Option (AC×jB):=
 (Az k a0).bind fun x0=>cond (!(decide ((x0.1.length : Int)=a1))) (cond (pg a1 a1 8) (some ((List.replicate a1.toNat (0:Int)),x0.2.1,false)) none)<|some (x0.1,x0.2)
abbrev yDb:Type:=Int→Int→jB→EQ→Option yAw
def IJ (k:Nat)(rec:yDb):yDb:=fun s1 s6 b0 r1=>
 cond (decide (s6<s1)) (cond b0.2 ((Az k b0).bind fun x0=>cond (zL (r1.length+1) 24) (rec s1 (zA (s6+1)) x0.2 (r1++[x0.1])) none)<|some (b0,r1))<|some (b0,r1)
def II (k:Nat):Nat→yDb:=qY (fun _ _ _ _=>none) (IJ k)
def IF (k:Nat)(a0:jB)(a1:Int):Option (EQ×jB):=
 (II k k a1 0 a0 []).bind fun z=>some (z.2,z.1)
def IL (k:Nat)(rec:yGf):yGf:=fun s0 s7 b0 b1 r2 b3 r4=>
 cond (zB 3 r2.length) (cond (decide (s7<(r2.getD 3 0))) (cond b1.2 ((we k b1 3).bind fun x1=>cond (zB 0 x1.1.length) (cond (zB 1 x1.1.length) (cond (zB 2 x1.1.length) (cond (zL (r4.length+1) 24) (let y0:List zK:=(r4++[((x1.1.getD 0 0),(x1.1.getD 1 0),(x1.1.getD 2 0))])
        rec s0 (zA (s7+1)) b0 x1.2 r2 b3 y0) none) none) none) none)<|some (s0,b0,b1,r2,b3,r4))<|some (s0,b0,b1,r2,b3,r4)) none
def Dg (k:Nat):Nat→yGf:=qY (fun _ _ _ _ _ _ _=>none) (IL k)
abbrev qNv:Type:=AC→Int→yS→jB→AC→yS→List zK→EQ→AC→EQ→AC→EQ→List zD→Option yDc
def IN (k:Nat)(rec:qNv):qNv:=fun s0 s9 b0 b1 r2 b3 r4 r5 r6 r7 r8 r9 Ue=>
 cond (zB 8 r2.length) (cond (decide (s9<(r2.getD 8 0))) (cond b1.2 ((we k b1 7).bind fun x7=>cond (zB 0 x7.1.length) (cond (zB 1 x7.1.length) (cond (zB 2 x7.1.length) (cond (zB 3 x7.1.length) (cond (zB 4 x7.1.length) (cond (zB 5 x7.1.length) (cond (zB 6 x7.1.length) (cond (zL (Ue.length+1) 56) (let y1:List zD:=(Ue++[((x7.1.getD 0 0),(x7.1.getD 1 0),(x7.1.getD 2 0),(x7.1.getD 3 0),(x7.1.getD 4 0),(x7.1.getD 5 0),(x7.1.getD 6 0))])
            rec s0 (zA (s9+1)) b0 x7.2 r2 b3 r4 r5 r6 r7 r8 r9 y1) none) none) none) none) none) none) none) none)<|some (s0,b0,b1,b3,r4,r5,r6,r7,r8,r9,Ue))<|some (s0,b0,b1,b3,r4,r5,r6,r7,r8,r9,Ue)) none
def Dl (k:Nat):Nat→qNv:=qY (fun _ _ _ _ _ _ _ _ _ _ _ _ _=>none) (IN k)
def IP (k:Nat)(a0:AC):Option (yA×Bool):=
 (we k (a0,true) 9).bind fun x0=>cond (zB 0 x0.1.length) (cond (zB 1 x0.1.length) (cond (zB 2 x0.1.length) ((Dg k k a0 0 (0,0,false) x0.2 x0.1 ((x0.1.getD 0 0),(x0.1.getD 1 0),(decide ((x0.1.getD 2 0)=1))) []).bind fun z=>cond (zB 4 z.2.2.2.1.length) ((IF k z.2.2.1 (z.2.2.2.1.getD 4 0)).bind fun x2=>(Az k x2.2).bind fun x3=>cond (zB 6 z.2.2.2.1.length) ((IF k x3.2 (z.2.2.2.1.getD 6 0)).bind fun x4=>(Az k x4.2).bind fun x5=>cond (zB 7 z.2.2.2.1.length) ((IF k x5.2 (z.2.2.2.1.getD 7 0)).bind fun x6=>(Dl k k z.1 0 z.2.1 x6.2 z.2.2.2.1 z.2.2.2.2.1 z.2.2.2.2.2 x2.1 x3.1 x4.1 x5.1 x6.1 []).bind fun z1=>(Az k z1.2.2.1).bind fun x8=>cond (!x8.2.2) (some ((0,[],[],[],[],[],[],[],[],0,false),false))<|cond (decide ((x8.2.1.length:Int)>0)) (some ((0,[],[],[],[],[],[],[],[],0,false),false))<|(oD k (z1.2.2.2.1.1,(Of z1 (x8.1,z1.2.2.2.1.2)))).bind fun x9=>cond (!(oR x9 z1.1)) (some ((0,[],[],[],[],[],[],[],[],0,false),false))<|some ((z1.2.2.2.1.1,(Of z1 (x8.1,z1.2.2.2.1.2))),true)) none) none) none) none) none) none
def B4 (k:Nat)(a0:Int):Option Int:=
 cond (decide (a0<0)) (some (-1))<|cond (decide (a0≥24)) (some (-1))<|cond (zB a0 24) (some (List.getD [(-1),6,1,2,2,2,1,1,2,0,2,2,2,0,0,0,1,5,4,1,1,1,1,1] a0.toNat 0)) none
abbrev yB5:Type:=zD×zD
abbrev qRo:Type:=Int→zD→zD→AC→Option yB5
def ySc (k:Nat)(rec:qRo):qRo:=fun s7 b0 b1 r2=>
 cond (decide (s7<r2.length)) (cond (zB s7 r2.length) (cond (decide (s7=0)) (rec (zA (s7+1)) b0 (b1.1,(r2.getD s7.toNat 0),b1.2.2) r2)<|cond (decide (s7=1)) (rec (zA (s7+1)) b0 (b1.1,b1.2.1,(r2.getD s7.toNat 0),b1.2.2.2) r2)<|cond (decide (s7=2)) (rec (zA (s7+1)) b0 (b1.1,b1.2.1,b1.2.2.1,(r2.getD s7.toNat 0),b1.2.2.2.2) r2)<|cond (decide (s7=3)) (rec (zA (s7+1)) b0 (vR b1 ((r2.getD s7.toNat 0),b1.2.2.2.2.2)) r2)<|cond (decide (s7=4)) (rec (zA (s7+1)) b0 (fL b1 ((r2.getD s7.toNat 0),b1.2.2.2.2.2.2)) r2)<|cond (decide (s7=5)) (rec (zA (s7+1)) b0 (jF b1 (r2.getD s7.toNat 0)) r2) none) none)<|some (b0,b1)
def Qb (k:Nat):Nat→qRo:=qY (fun _ _ _ _=>none) (ySc k)
def uK (k:Nat)(a0:AC):Option (zD×Int):=
 cond (decide ((a0.length:Int)=0)) (some ((0,0,0,0,0,0,0),2))<|cond (zB 0 a0.length) (cond (decide (1≤(a0.length : Int))) ((xR k (List.drop 1 a0)).bind fun x0=>cond (!(decide (x0.2=0))) (some ((0,0,0,0,0,0,0),2))<|(B4 k (zA ((a0.getD 0 0)))).bind fun x1=>cond (!(decide ((x0.1.length:Int)=x1))) (some ((0,0,0,0,0,0,0),2))<|(Qb k k 0 (0,0,0,0,0,0,0) ((zA ((a0.getD 0 0))),0,0,0,0,0,0) x0.1).bind fun z=>some (z.2,0)) none) none
def SC (k:Nat)(a0:AC):Option (zW×Int):=
 cond (decide ((a0.length:Int)<8)) (some ((0,0,0,0,0,0,0,0),2))<|cond (decide (8≤(a0.length : Int))) ((xR k (List.take 8 a0)).bind fun x0=>cond (decide (8≤(a0.length : Int))) ((uK k (List.drop 8 a0)).bind fun x1=>cond (!(decide (x1.2=0))) (some ((0,0,0,0,0,0,0,0),2))<|cond (zB 0 x0.1.length) (some (((x0.1.getD 0 0),x1.1),0)) none) none) none
def Sa (k:Nat)(a0:Int):Option Bool:=
 cond (decide (a0≥1)) (some (decide (a0≤14)))<|some false
abbrev qZo:Type:=Int→Int→zD→Option (Int⊕Bool)
def yDu (k:Nat)(rec:qZo):qZo:=fun s3 s4 b0=>
 cond (decide (s4<6)) (cond (decide (s4=0)) (cond (!(decide (b0.2.1=0))) (some (.inr false))<|rec s3 (zA (s4+1)) b0)<|cond (decide (s4=1)) (cond (!(decide (b0.2.2.1=0))) (some (.inr false))<|rec s3 (zA (s4+1)) b0)<|cond (decide (s4=2)) (cond (!(decide (b0.2.2.2.1=0))) (some (.inr false))<|rec s3 (zA (s4+1)) b0)<|cond (decide (s4=3)) (cond (!(decide (b0.2.2.2.2.1=0))) (some (.inr false))<|rec s3 (zA (s4+1)) b0)<|cond (decide (s4=4)) (cond (!(decide (b0.2.2.2.2.2.1=0))) (some (.inr false))<|rec s3 (zA (s4+1)) b0)<|cond (decide (s4=5)) (cond (!(decide (b0.2.2.2.2.2.2=0))) (some (.inr false))<|rec s3 (zA (s4+1)) b0) none)<|some (.inl s3)
def zd (k:Nat):Nat→qZo:=qY (fun _ _ _=>none) (yDu k)
def tq (k:Nat)(a0:zD):Option Bool:=
 (B4 k a0.1).bind fun x0=>(zd k k x0 (yI false x0 0) a0).bind fun z=>match z with
 |.inl z1=>some (decide (z1≥0))
 |.inr z2=>some z2
def Sb (k:Nat)(a0:Int):Option Bool:=
 cond (decide (a0≥10)) (some (decide (a0≤14)))<|some false
def CU (k:Nat)(a0:qW)(a1:zW):Option Bool:=
 (Sa k a1.2.1).bind fun x0=>cond (!x0) (some false)<|(tq k a1.2).bind fun x1=>cond (!x1) (some false)<|(Sb k a1.2.1).bind fun x2=>cond x2 (some (decide (a1.1=(-1))))<|cond (decide (a1.1≥0)) (some (decide (a1.1<a0.1)))<|some false
abbrev yDf:Type:=List zD→Int→Int→List zD→Option qVz
def F6 (k:Nat)(rec:yDf):yDf:=fun s0 s1 s6 r0=>
 cond (decide (s6<s0.length)) (cond (zB s6 s0.length) (cond (decide ((s0.getD s6.toNat ama).2.1=s1)) (cond (zB s6 s0.length) (cond (zL (r0.length+1) 56) (let y0:List zD:=(r0++[(s0.getD s6.toNat ama)])
      rec s0 s1 (zA (s6+1)) y0) none) none)<|rec s0 s1 (zA (s6+1)) r0) none)<|some r0
def LK (k:Nat):Nat→yDf
 |0,_,_,_,_=>none
 |n+1,s0,s1,s6,r0=>F6 k (LK k n) s0 s1 s6 r0
def uS (k:Nat)(a0:List zD)(a1:Int):Option (List zD):=
 (LK k k a0 a1 0 []).bind fun z=>some z
abbrev qYx:Type:=Int×Int×Int×Int×Int×Int×Int×Int×Int×Int×Int×Int×Int×Int
abbrev qQ3:Type:=AC→Int→Int→Int→Int→Int→Int→Int→Int→Int→Int→Int→Int→Int→Int→Int→Option qYx
def yY6 (k:Nat)(rec:qQ3):qQ3:=fun s1 s6 af ai aj ah bb bp bq aw aD aE aG aJ aK aL=>
 cond (decide (s6<s1.length)) (cond (decide (s6<6)) (cond (zB s6 s1.length) (cond (decide (s6=0)) (rec s1 (zA (s6+1)) af ai aj ah bb bp bq aw (s1.getD s6.toNat 0) aE aG aJ aK aL)<|cond (decide (s6=1)) (rec s1 (zA (s6+1)) af ai aj ah bb bp bq aw aD (s1.getD s6.toNat 0) aG aJ aK aL)<|cond (decide (s6=2)) (rec s1 (zA (s6+1)) af ai aj ah bb bp bq aw aD aE (s1.getD s6.toNat 0) aJ aK aL)<|cond (decide (s6=3)) (rec s1 (zA (s6+1)) af ai aj ah bb bp bq aw aD aE aG (s1.getD s6.toNat 0) aK aL)<|cond (decide (s6=4)) (rec s1 (zA (s6+1)) af ai aj ah bb bp bq aw aD aE aG aJ (s1.getD s6.toNat 0) aL)<|cond (decide (s6=5)) (rec s1 (zA (s6+1)) af ai aj ah bb bp bq aw aD aE aG aJ aK (s1.getD s6.toNat 0)) none) none)<|some (af,ai,aj,ah,bb,bp,bq,aw,aD,aE,aG,aJ,aK,aL))<|some (af,ai,aj,ah,bb,bp,bq,aw,aD,aE,aG,aJ,aK,aL)
def TZ (k:Nat):Nat→qQ3
 |0,_,_,_,_,_,_,_,_,_,_,_,_,_,_,_,_=>none
 |n+1,s1,s6,af,ai,aj,ah,bb,bp,bq,aw,aD,aE,aG,aJ,aK,aL=>yY6 k (TZ k n) s1 s6 af ai aj ah bb bp bq aw aD aE aG aJ aK aL
def fK (k:Nat)(a0:Int)(a1:AC):Option zD:=
 (TZ k k a1 0 0 0 0 0 0 0 0 a0 0 0 0 0 0 0).bind fun z=>some (z.2.2.2.2.2.2.2.1,z.2.2.2.2.2.2.2.2.1,z.2.2.2.2.2.2.2.2.2.1,z.2.2.2.2.2.2.2.2.2.2.1,z.2.2.2.2.2.2.2.2.2.2.2.1,z.2.2.2.2.2.2.2.2.2.2.2.2.1,z.2.2.2.2.2.2.2.2.2.2.2.2.2)
def R9 (k:Nat)(a0:qW)(a1:Int):Option Bool:=
 some (decide (a1=a0.2.2.2.1))
def qU5 (k:Nat)(cj bj bB cy bN cd bP a1:Int):Option Bool:=
 some (decide (a1>bP))
abbrev qYs:Type:=List zD→Int→Int→Option (Unit⊕Int)
def Gf (k:Nat)(rec:qYs):qYs:=fun s0 s1 s5=>
 cond (decide (s5<s0.length)) (cond (zB s5 s0.length) (cond (decide ((s0.getD s5.toNat ama).1=s1)) (some (.inr s5))<|rec s0 s1 (zA (s5+1))) none)<|some (.inl ())
def Ge (k:Nat):Nat→qYs
 |0,_,_,_=>none
 |n+1,s0,s1,s5=>Gf k (Ge k n) s0 s1 s5
def mE (k:Nat)(a0:List zD)(a1:Int):Option Int:=
 (Ge k k a0 a1 0).bind fun z=>match z with
 |.inl z1=>some (-1)
 |.inr z2=>some z2
def oF (k:Nat)(a0:List zD)(a1:Int):Option qQv:=
 (mE k a0 a1).bind fun x0=>cond (decide (x0<0)) (some (a0,0,0,0,0,0,0,0,4))<|cond ((decide (0≤x0))&&(decide (x0≤a0.length))) (cond (zL (0+(List.take x0.toNat a0).length) 56) (cond ((decide (0≤(zA (x0+1))))&&(decide ((zA (x0+1))≤a0.length))) (cond (zL ((List.take x0.toNat a0).length+(List.drop (zA (x0+1)).toNat a0).length) 56) (cond (zB x0 a0.length) (some (((List.take x0.toNat a0)++(List.drop (zA (x0+1)).toNat a0)),(gi (a0.getD x0.toNat ama) 0))) none) none) none) none) none
def Na (k:Nat)(a0:qW)(a1:Int):Option Bool:=
 cond (decide (a1>0)) (cond (decide (a1<a0.2.2.2.1)) (cond (!(decide (a0.2.2.2.2=0))) (some (decide ((Int.tmod a1 a0.2.2.2.2)=0))) none)<|some false)<|some false
def Z1 (k:Nat)(cj bj bB cy bN cd bP a1:Int):Option Bool:=
 cond (decide (a1≥cd)) (some (decide (a1≤bP)))<|some false
def F5 (k:Nat)(rec:yDf):yDf:=fun s0 s1 s6 r0=>
 cond (decide (s6<s0.length)) (cond (zB s6 s0.length) ((Z1 k (s0.getD s6.toNat ama).1 (s0.getD s6.toNat ama).2.1 (s0.getD s6.toNat ama).2.2.1 (s0.getD s6.toNat ama).2.2.2.1 (s0.getD s6.toNat ama).2.2.2.2.1 (s0.getD s6.toNat ama).2.2.2.2.2.1 (s0.getD s6.toNat ama).2.2.2.2.2.2 s1).bind fun x0=>cond x0 (cond (zB s6 s0.length) (cond (zL (r0.length+1) 56) (let y0:List zD:=(r0++[(s0.getD s6.toNat ama)])
      rec s0 s1 (zA (s6+1)) y0) none) none)<|rec s0 s1 (zA (s6+1)) r0) none)<|some r0
def LJ (k:Nat):Nat→yDf
 |0,_,_,_,_=>none
 |n+1,s0,s1,s6,r0=>F5 k (LJ k n) s0 s1 s6 r0
def F4 (k:Nat)(a0:List zD)(a1:Int):Option (List zD):=
 (LJ k k a0 a1 0 []).bind fun z=>some z
abbrev yG3:Type:=Int×Bool×(List zD)×(List zD)×(List zD)
abbrev yCl:Type:=Int→Bool→Int→List zD→List zD→List zD→Option yG3
def F8 (k:Nat)(rec:yCl):yCl:=fun s7 s9 av r0 r1 r2=>
 cond (decide (av<r2.length)) (cond s9 (cond (zB av r2.length) (rec s7 (decide ((r2.getD av.toNat ama).2.2.2.2.1=3)) (zA (av+1)) r0 r1 r2) none)<|rec s7 false (zA (av+1)) r0 r1 r2)<|some (s7,s9,r0,r1,r2)
def F7 (k:Nat):Nat→yCl
 |0,_,_,_,_,_,_=>none
 |n+1,s7,s9,av,r0,r1,r2=>F8 k (F7 k n) s7 s9 av r0 r1 r2
abbrev qSy:Type:=Int→List zD→List zD→Option qVz
def F9 (k:Nat)(rec:qSy):qSy:=fun s7 r0 r1=>
 cond (decide (s7<r0.length)) (cond (zB s7 r0.length) ((uS k r0 (r0.getD s7.toNat ama).2.1).bind fun x1=>(F7 k k s7 true 0 r0 r1 x1).bind fun z=>cond (zB 0 z.2.2.2.2.length) (cond (zB z.1 z.2.2.1.length) (cond ((decide ((z.2.2.2.2.getD 0 ama).1=(z.2.2.1.getD z.1.toNat ama).1))&&((decide ((z.2.2.2.2.getD 0 ama).2.1=(z.2.2.1.getD z.1.toNat ama).2.1))&&((decide ((z.2.2.2.2.getD 0 ama).2.2.1=(z.2.2.1.getD z.1.toNat ama).2.2.1))&&((decide ((z.2.2.2.2.getD 0 ama).2.2.2.1=(z.2.2.1.getD z.1.toNat ama).2.2.2.1))&&((decide ((z.2.2.2.2.getD 0 ama).2.2.2.2.1=(z.2.2.1.getD z.1.toNat ama).2.2.2.2.1))&&((decide ((z.2.2.2.2.getD 0 ama).2.2.2.2.2.1=(z.2.2.1.getD z.1.toNat ama).2.2.2.2.2.1))&&(decide ((z.2.2.2.2.getD 0 ama).2.2.2.2.2.2=(z.2.2.1.getD z.1.toNat ama).2.2.2.2.2.2)))))))) (cond (zB z.1 z.2.2.1.length) (cond (zL (z.2.2.2.1.length+1) 56) (let y0:List zD:=(z.2.2.2.1++[(z.2.2.1.getD z.1.toNat ama)])
        rec (zA (z.1+1)) z.2.2.1 y0) none) none)<|cond z.2.1 (cond (zB z.1 z.2.2.1.length) (cond (zL (z.2.2.2.1.length+1) 56) (let y1:List zD:=(z.2.2.2.1++[(z.2.2.1.getD z.1.toNat ama)])
        rec (zA (z.1+1)) z.2.2.1 y1) none) none)<|rec (zA (z.1+1)) z.2.2.1 z.2.2.2.1) none) none) none)<|some r1
def LM (k:Nat):Nat→qSy
 |0,_,_,_=>none
 |n+1,s7,r0,r1=>F9 k (LM k n) s7 r0 r1
def LL (k:Nat)(a0:List zD)(a1:Int):Option (List zD):=
 (F4 k a0 a1).bind fun x0=>(LM k k 0 x0 []).bind fun z1=>some z1
def Qu (k:Nat)(au:List zK)(aB:EQ)(az:AC)(ax:EQ)(ij cz dz eA dA jk jl:Int):Option Bool:=
 cond (decide (cz≥0)) (cond (decide (cz<au.length)) (cond (decide (dz≥0)) (cond (decide (dz<au.length)) (cond (!(decide (cz=dz))) (cond (decide (eA≥1)) (cond (decide (eA≤1099511627776)) (cond (decide (dA≥1)) (some (decide (dA≤3)))<|some false)<|some false)<|some false)<|some false)<|some false)<|some false)<|some false)<|some false
abbrev qVc:Type:=List zD→Int→List zK→EQ→AC→EQ→Option yAc
def Fz (k:Nat)(rec:qVc):qVc:=fun s1 s5 af ai aj ah=>
 cond (decide (s5<s1.length)) (cond (zB s5 s1.length) ((Qu k af ai aj ah (s1.getD s5.toNat ama).1 (s1.getD s5.toNat ama).2.1 (s1.getD s5.toNat ama).2.2.1 (s1.getD s5.toNat ama).2.2.2.1 (s1.getD s5.toNat ama).2.2.2.2.1 (s1.getD s5.toNat ama).2.2.2.2.2.1 (s1.getD s5.toNat ama).2.2.2.2.2.2).bind fun x0=>cond (!x0) (some (.inr false))<|rec s1 (zA (s5+1)) af ai aj ah) none)<|some (.inl s1)
def Lm (k:Nat):Nat→qVc
 |0,_,_,_,_,_,_=>none
 |n+1,s1,s5,af,ai,aj,ah=>Fz k (Lm k n) s1 s5 af ai aj ah
def Ll (k:Nat)(au:List zK)(aB:EQ)(az:AC)(ax:EQ)(a1:List zD):Option Bool:=
 (Lm k k a1 0 au aB az ax).bind fun z=>match z with
 |.inl z1=>some (decide ((z1.length:Int)≤64))
 |.inr z2=>some z2
abbrev qM7:Type:=EQ→Int→EQ→Option EQ
def Fq (k:Nat)(rec:qM7):qM7:=fun s0 s4 m0=>
 cond (decide (s4<s0.length)) (cond (zB s4 s0.length) (cond (zL (0+(s0.getD s4.toNat []).length) 8) (cond (zL (m0.length+1) 24) (rec s0 (zA (s4+1)) (m0++[(s0.getD s4.toNat [])])) none) none) none)<|some m0
def K8 (k:Nat):Nat→qM7
 |0,_,_,_=>none
 |n+1,s0,s4,m0=>Fq k (K8 k n) s0 s4 m0
def K9 (k:Nat)(a0:EQ):Option EQ:=
 (K8 k k a0 0 []).bind fun z=>some z
def pw (k:Nat)(au:List zK)(aB:EQ)(az:AC)(ax:EQ):Option AY:=
 cond (zL (0+au.length) 24) ((K9 k aB).bind fun x0=>cond (zL (0+az.length) 8) ((K9 k ax).bind fun x1=>some (au,x0,az,x1)) none) none
abbrev qOx:Type:=List zD→Int→Int→Int→Int→Option vW
def FE (k:Nat)(rec:qOx):qOx:=fun s0 s1 s6 s7 s8=>
 cond (decide (s8<s0.length)) (cond (zB s8 s0.length) (cond (!(decide ((s0.getD s8.toNat ama).2.1=s1))) (rec s0 s1 s6 s7 (zA (s8+1)))<|cond (zB s8 s0.length) (cond (decide ((s0.getD s8.toNat ama).2.2.2.2.1=3)) (cond (zB s8 s0.length) (rec s0 s1 (zA (s6+(s0.getD s8.toNat ama).2.2.2.1)) s7 (zA (s8+1))) none)<|cond (zB s8 s0.length) (rec s0 s1 s6 (zA (s7+(s0.getD s8.toNat ama).2.2.2.1)) (zA (s8+1))) none) none) none)<|some (s6,s7)
def Lq (k:Nat):Nat→qOx
 |0,_,_,_,_,_=>none
 |n+1,s0,s1,s6,s7,s8=>FE k (Lq k n) s0 s1 s6 s7 s8
def Lp (k:Nat)(a0:List zD)(a1:Int):Option vW:=
 (Lq k k a0 a1 0 0 0).bind fun z=>some (z.1,z.2)
def QC (k:Nat)(a0:List zD)(a1:Int):Option Int:=
 (Lp k a0 a1).bind fun x0=>some x0.2
def Lr (k:Nat)(jm jn fl a1:Int):Option Int:=
 cond (decide (a1≥fl)) (some 0)<|some (zA (fl-a1))
abbrev qPd:Type:=List zD→Int→Int→Int→Int→Option Int
def FD (k:Nat)(rec:qPd):qPd:=fun s0 s1 s2 s7 s8=>
 cond (decide (s8<s0.length)) (cond (zB s8 s0.length) (cond (decide ((s0.getD s8.toNat ama).2.1=s1)) (cond (zB s8 s0.length) (cond (decide ((s0.getD s8.toNat ama).2.2.1=s2)) (cond (zB s8 s0.length) (rec s0 s1 s2 (zA (s7+(s0.getD s8.toNat ama).2.2.2.1)) (zA (s8+1))) none)<|rec s0 s1 s2 s7 (zA (s8+1))) none)<|rec s0 s1 s2 s7 (zA (s8+1))) none)<|some s7
def Ln (k:Nat):Nat→qPd
 |0,_,_,_,_,_=>none
 |n+1,s0,s1,s2,s7,s8=>FD k (Ln k n) s0 s1 s2 s7 s8
def yc (k:Nat)(a0:List zD)(a1 a2:Int):Option Int:=
 (Ln k k a0 a1 a2 0 0).bind fun z=>some z
def QA (k:Nat)(a0:List zD)(a1 a2:Int):Option Int:=
 (yc k a0 a1 a2).bind fun x0=>(yc k a0 a2 a1).bind fun x1=>some (zA (x0-x1))
abbrev qS4:Type:=EQ→Int→Int→Option (Unit⊕Bool)
def E8 (k:Nat)(rec:qS4):qS4:=fun s0 s1 s5=>
 cond (decide (s5<s1)) (cond (zB s5 s0.length) (cond (!(decide (((s0.getD s5.toNat []).length:Int)=s1))) (some (.inr false))<|rec s0 s1 (zA (s5+1))) none)<|some (.inl ())
def K0 (k:Nat):Nat→qS4
 |0,_,_,_=>none
 |n+1,s0,s1,s5=>E8 k (K0 k n) s0 s1 s5
def KZ (k:Nat)(a0:EQ)(a1:Int):Option Bool:=
 cond (!(decide ((a0.length:Int)=a1))) (some false)<|(K0 k k a0 a1 0).bind fun z=>match z with
 |.inl z1=>some true
 |.inr z2=>some z2
def KX (k:Nat)(jm jn fl:Int):Option Bool:=
 cond (decide (jm>(-4611686018427387904))) (cond (decide (jm<4611686018427387904)) (cond (decide (jn≥0)) (cond (decide (jn≤2305843009213693952)) (cond (decide (fl≥0)) (some (decide (fl≤2305843009213693952)))<|some false)<|some false)<|some false)<|some false)<|some false
def KY (k:Nat)(a0:Int):Option Bool:=
 cond (decide (a0≥(-1))) (some (decide (a0≤2305843009213693952)))<|some false
abbrev yE0:Type:=(Int×Int×(List zK)×EQ×AC×EQ)⊕Bool
abbrev yDj:Type:=Int→Int→Int→List zK→EQ→AC→EQ→Option yE0
def Fa (k:Nat)(rec:yDj):yDj:=fun s3 s4 s5 af ai aj ah=>
 cond (decide (s5<s3)) (cond (zB s4 ai.length) (cond (zB s5 (ai.getD s4.toNat []).length) ((KY k ((ai.getD s4.toNat []).getD s5.toNat 0)).bind fun x4=>cond (!x4) (some (.inr false))<|cond (zB s4 ah.length) (cond (zB s5 (ah.getD s4.toNat []).length) (cond (decide (((ah.getD s4.toNat []).getD s5.toNat 0)≤(-72057594037927936))) (some (.inr false))<|cond (zB s4 ah.length) (cond (zB s5 (ah.getD s4.toNat []).length) (cond (decide (((ah.getD s4.toNat []).getD s5.toNat 0)≥72057594037927936)) (some (.inr false))<|cond (zB s4 ah.length) (cond (zB s5 (ah.getD s4.toNat []).length) (cond (zB s5 ah.length) (cond (zB s4 (ah.getD s5.toNat []).length) (cond (!(decide (((ah.getD s4.toNat []).getD s5.toNat 0)=(zA (0-((ah.getD s5.toNat []).getD s4.toNat 0)))))) (some (.inr false))<|rec s3 s4 (zA (s5+1)) af ai aj ah) none) none) none) none) none) none) none) none) none) none)<|some (.inl (s3,s4,af,ai,aj,ah))
def E9 (k:Nat):Nat→yDj
 |0,_,_,_,_,_,_,_=>none
 |n+1,s3,s4,s5,af,ai,aj,ah=>Fa k (E9 k n) s3 s4 s5 af ai aj ah
abbrev qM1:Type:=Int→Int→List zK→EQ→AC→EQ→Option (Unit⊕Bool)
def Fe (k:Nat)(rec:qM1):qM1:=fun s3 s4 af ai aj ah=>
 cond (decide (s4<s3)) (cond (zB s4 af.length) ((KX k (af.getD s4.toNat ala).1 (af.getD s4.toNat ala).2.1 (af.getD s4.toNat ala).2.2).bind fun x2=>cond (!x2) (some (.inr false))<|cond (zB s4 aj.length) ((KY k (aj.getD s4.toNat 0)).bind fun x3=>cond (!x3) (some (.inr false))<|(E9 k k s3 s4 0 af ai aj ah).bind fun z=>match z with
    |.inl z1=>rec z1.1 (zA (z1.2.1+1)) z1.2.2.1 z1.2.2.2.1 z1.2.2.2.2.1 z1.2.2.2.2.2
    |.inr z2=>some (.inr z2)) none) none)<|some (.inl ())
def Fc (k:Nat):Nat→qM1
 |0,_,_,_,_,_,_=>none
 |n+1,s3,s4,af,ai,aj,ah=>Fe k (Fc k n) s3 s4 af ai aj ah
def Ff (k:Nat)(au:List zK)(aB:EQ)(az:AC)(ax:EQ):Option Bool:=
 cond (decide ((au.length:Int)<1)) (some false)<|cond (decide ((au.length:Int)>6)) (some false)<|(KZ k aB (au.length:Int)).bind fun x0=>cond (!x0) (some false)<|(KZ k ax (au.length:Int)).bind fun x1=>cond (!x1) (some false)<|cond (!(decide ((az.length:Int)=(au.length:Int)))) (some false)<|(Fc k k (au.length:Int) 0 au aB az ax).bind fun z3=>match z3 with
 |.inl z4=>some true
 |.inr z5=>some z5
abbrev qT8:Type:=(List zD)×Int×(List zK)×EQ×AC×EQ×(List zK)×EQ×AC×EQ
abbrev qTs:Type:=List zD→Int→Int→List zK→EQ→AC→EQ→List zK→EQ→AC→EQ→Option qT8
def FG (k:Nat)(rec:qTs):qTs:=fun s1 s7 s8 af ai aj ah r3 m4 r5 m6=>
 cond (decide (s8<r3.length)) ((QA k s1 s7 s8).bind fun x4=>cond (zB s7 r3.length) (cond (zB s7 r3.length) (let y1:List zK:=(r3.set s7.toNat ((zA ((r3.getD s7.toNat ala).1-x4)),(r3.getD s7.toNat ala).2))
    cond (zB s7 m6.length) (cond (zB s7 m6.length) (cond (zB s8 (m6.getD s7.toNat []).length) (cond (zB s8 (m6.getD s7.toNat []).length) (let y2:EQ:=(m6.set s7.toNat ((m6.getD s7.toNat []).set s8.toNat (zA (((m6.getD s7.toNat []).getD s8.toNat 0)+x4))))
        rec s1 s7 (zA (s8+1)) af ai aj ah y1 m4 r5 y2) none) none) none) none) none) none)<|some (s1,s7,af,ai,aj,ah,r3,m4,r5,m6)
def FF (k:Nat):Nat→qTs
 |0,_,_,_,_,_,_,_,_,_,_,_=>none
 |n+1,s1,s7,s8,af,ai,aj,ah,r3,m4,r5,m6=>FG k (FF k n) s1 s7 s8 af ai aj ah r3 m4 r5 m6
abbrev qZ7:Type:=List zD→Int→List zK→EQ→AC→EQ→List zK→EQ→AC→EQ→Option qWk
def FI (k:Nat)(rec:qZ7):qZ7:=fun s1 s7 af ai aj ah r3 m4 r5 m6=>
 cond (decide (s7<r3.length)) (cond (zB s7 r3.length) ((QC k s1 s7).bind fun x2=>(Lr k (r3.getD s7.toNat ala).1 (r3.getD s7.toNat ala).2.1 (r3.getD s7.toNat ala).2.2 x2).bind fun x3=>cond (zB s7 r3.length) (let y0:List zK:=(r3.set s7.toNat ((r3.getD s7.toNat ala).1,(r3.getD s7.toNat ala).2.1,x3))
    (FF k k s1 s7 0 af ai aj ah y0 m4 r5 m6).bind fun z=>rec z.1 (zA (z.2.1+1)) z.2.2.1 z.2.2.2.1 z.2.2.2.2.1 z.2.2.2.2.2.1 z.2.2.2.2.2.2.1 z.2.2.2.2.2.2.2.1 z.2.2.2.2.2.2.2.2.1 z.2.2.2.2.2.2.2.2.2) none) none)<|some (af,ai,aj,ah,r3,m4,r5,m6)
def FH (k:Nat):Nat→qZ7
 |0,_,_,_,_,_,_,_,_,_,_=>none
 |n+1,s1,s7,af,ai,aj,ah,r3,m4,r5,m6=>FI k (FH k n) s1 s7 af ai aj ah r3 m4 r5 m6
def Cb (k:Nat)(au:List zK)(aB:EQ)(az:AC)(ax:EQ)(a1:List zD):Option ((List zK)×EQ×AC×EQ×Int):=
 (Ll k au aB az ax a1).bind fun x0=>cond (!x0) (some (au,aB,az,ax,1))<|(pw k au aB az ax).bind fun x1=>(FH k k a1 0 au aB az ax x1.1 x1.2.1 x1.2.2.1 x1.2.2.2).bind fun z1=>(Ff k z1.2.2.2.2.1 z1.2.2.2.2.2.1 z1.2.2.2.2.2.2.1 z1.2.2.2.2.2.2.2).bind fun x5=>cond (!x5) (some (vR z1 8))<|some (yKd z1 0)
abbrev qSu:Type:=Int→Int→Int→List zK→EQ→AC→EQ→Option Int
def FK (k:Nat)(rec:qSu):qSu:=fun s1 s5 s6 af ai aj ah=>
 cond (zB s1 ah.length) (cond (decide (s6<(ah.getD s1.toNat []).length)) (cond (zB s1 ah.length) (cond (zB s6 (ah.getD s1.toNat []).length) (rec s1 (zA (s5+((ah.getD s1.toNat []).getD s6.toNat 0))) (zA (s6+1)) af ai aj ah) none) none)<|some s5) none
def FJ (k:Nat):Nat→qSu
 |0,_,_,_,_,_,_,_=>none
 |n+1,s1,s5,s6,af,ai,aj,ah=>FK k (FJ k n) s1 s5 s6 af ai aj ah
def QF (k:Nat)(au:List zK)(aB:EQ)(az:AC)(ax:EQ)(a1:Int):Option Int:=
 (FJ k k a1 0 0 au aB az ax).bind fun z=>some z
abbrev qX8:Type:=(Int×Int×Int×Int×Int×(List zK)×EQ×AC×EQ)⊕Bool
abbrev qRc:Type:=List zD→Int→Int→Int→Int→Int→Int→List zK→EQ→AC→EQ→Option qX8
def FM (k:Nat)(rec:qRc):qRc:=fun s1 s2 s7 s8 s9 av aP af ai aj ah=>
 cond (decide (aP<af.length)) ((yc k s1 s2 aP).bind fun x2=>(yc k s1 aP s2).bind fun x3=>(yc k s1 s2 aP).bind fun x4=>cond (decide (x4>0)) (cond (zB s2 ai.length) (cond (zB aP (ai.getD s2.toNat []).length) (cond (!(decide (((ai.getD s2.toNat []).getD aP.toNat 0)=(-1)))) (cond (zB s2 ah.length) (cond (zB aP (ah.getD s2.toNat []).length) (cond (zB s2 ai.length) (cond (zB aP (ai.getD s2.toNat []).length) (cond (decide ((zA (((ah.getD s2.toNat []).getD aP.toNat 0)+(zA (x2-x3))))>((ai.getD s2.toNat []).getD aP.toNat 0))) (some (.inr true))<|rec s1 s2 s7 s8 (zA (s9-(zA (x2-x3)))) (zA (av+(zA (x2-x3)))) (zA (aP+1)) af ai aj ah) none) none) none) none)<|rec s1 s2 s7 s8 (zA (s9-(zA (x2-x3)))) (zA (av+(zA (x2-x3)))) (zA (aP+1)) af ai aj ah) none) none)<|rec s1 s2 s7 s8 (zA (s9-(zA (x2-x3)))) (zA (av+(zA (x2-x3)))) (zA (aP+1)) af ai aj ah)<|some (.inl (s2,s7,s8,s9,av,af,ai,aj,ah))
def sZ (k:Nat):Nat→qRc
 |0,_,_,_,_,_,_,_,_,_,_,_=>none
 |n+1,s1,s2,s7,s8,s9,av,aP,af,ai,aj,ah=>FM k (sZ k n) s1 s2 s7 s8 s9 av aP af ai aj ah
def QJ (k:Nat)(au:List zK)(aB:EQ)(az:AC)(ax:EQ)(a1:List zD)(a2:Int):Option Bool:=
 (Lp k a1 a2).bind fun x0=>cond (decide ((zA (x0.1+x0.2))=0)) (some false)<|cond (zB a2 au.length) (cond (zB a2 au.length) ((QF k au aB az ax a2).bind fun x1=>(sZ k k a1 a2 x0.1 x0.2 (zA ((au.getD a2.toNat ala).1+(au.getD a2.toNat ala).2.1)) x1 0 au aB az ax).bind fun z=>match z with
   |.inl z1=>cond (decide (z1.2.2.2.1<0)) (some true)<|cond (decide (z1.2.1>0)) (cond (zB z1.1 z1.2.2.2.2.2.1.length) ((Lr k (z1.2.2.2.2.2.1.getD z1.1.toNat ala).1 (z1.2.2.2.2.2.1.getD z1.1.toNat ala).2.1 (z1.2.2.2.2.2.1.getD z1.1.toNat ala).2.2 z1.2.2.1).bind fun x5=>cond (decide (z1.2.2.2.1<x5)) (some true)<|cond (zB z1.1 z1.2.2.2.2.2.2.2.1.length) (cond (!(decide ((z1.2.2.2.2.2.2.2.1.getD z1.1.toNat 0)=(-1)))) (cond (zB z1.1 z1.2.2.2.2.2.2.2.1.length) (some (decide (z1.2.2.2.2.1>(z1.2.2.2.2.2.2.2.1.getD z1.1.toNat 0)))) none)<|some false) none) none)<|cond (zB z1.1 z1.2.2.2.2.2.2.2.1.length) (cond (!(decide ((z1.2.2.2.2.2.2.2.1.getD z1.1.toNat 0)=(-1)))) (cond (zB z1.1 z1.2.2.2.2.2.2.2.1.length) (some (decide (z1.2.2.2.2.1>(z1.2.2.2.2.2.2.2.1.getD z1.1.toNat 0)))) none)<|some false)<|none
   |.inr z2=>some z2) none) none
abbrev yBc:Type:=List zD→Int→List zK→EQ→AC→EQ→AC→Option AC
def ta (k:Nat)(rec:yBc):yBc:=fun s1 s6 af ai aj ah r1=>
 cond (decide (s6<af.length)) ((QJ k af ai aj ah s1 s6).bind fun x0=>cond x0 (cond (zL (r1.length+1) 8) (rec s1 (zA (s6+1)) af ai aj ah (r1++[s6])) none)<|rec s1 (zA (s6+1)) af ai aj ah r1)<|some r1
def uQ (k:Nat):Nat→yBc
 |0,_,_,_,_,_,_,_=>none
 |n+1,s1,s6,af,ai,aj,ah,r1=>ta k (uQ k n) s1 s6 af ai aj ah r1
def uP (k:Nat)(au:List zK)(aB:EQ)(az:AC)(ax:EQ)(a1:List zD):Option AC:=
 (uQ k k a1 0 au aB az ax []).bind fun z=>some z
def Lu (k:Nat)(au:List zK)(aB:EQ)(az:AC)(ax:EQ)(a1:List zD):Option Bool:=
 (Ll k au aB az ax a1).bind fun x0=>cond x0 ((uP k au aB az ax a1).bind fun x1=>some (decide ((x1.length:Int)=0)))<|some false
def vv (k:Nat)(au:List zK)(aB:EQ)(az:AC)(ax:EQ)(a1:List zD):Option ((List zK)×EQ×AC×EQ×Bool):=
 (Cb k au aB az ax a1).bind fun x0=>cond (decide (x0.2.2.2.2=0)) ((Lu k au aB az ax a1).bind fun x1=>some (vR x0 x1))<|some (vR x0 false)
abbrev qX0:Type:=zD⊕(Bool×Int×Int×Int×Int×Int×Int×Int)
abbrev yFb:Type:=Int→List zK→EQ→AC→EQ→Int→Int→Int→Int→Int→Int→Int→List zD→Option qX0
def HM (k:Nat)(rec:yFb):yFb:=fun s9 af ai aj ah aw aD aE aG aJ aK aL r2=>
 cond (decide (s9<r2.length)) (cond (((decide (0≤s9))&&(decide (s9≤(zA (s9+1)))))&&(decide ((zA (s9+1))≤r2.length))) ((vv k af ai aj ah (qS r2 (0+s9.toNat) ((zA (s9+1)).toNat-s9.toNat))).bind fun x1=>cond x1.2.2.2.2 (cond (zB s9 r2.length) (some (.inr (true,(r2.getD s9.toNat ama).1,(r2.getD s9.toNat ama).2.1,(r2.getD s9.toNat ama).2.2.1,(r2.getD s9.toNat ama).2.2.2.1,(r2.getD s9.toNat ama).2.2.2.2.1,(r2.getD s9.toNat ama).2.2.2.2.2.1,(r2.getD s9.toNat ama).2.2.2.2.2.2))) none)<|rec (zA (s9+1)) af ai aj ah aw aD aE aG aJ aK aL r2) none)<|some (.inl (aw,aD,aE,aG,aJ,aK,aL))
def MX (k:Nat):Nat→yFb
 |0,_,_,_,_,_,_,_,_,_,_,_,_,_=>none
 |n+1,s9,af,ai,aj,ah,aw,aD,aE,aG,aJ,aK,aL,r2=>HM k (MX k n) s9 af ai aj ah aw aD aE aG aJ aK aL r2
def R3 (k:Nat)(au:List zK)(aB:EQ)(az:AC)(ax:EQ)(a1:List zD)(a2:Int):Option (Int×Int×Int×Int×Int×Int×Int×Bool):=
 (LL k a1 a2).bind fun x0=>(MX k k 0 au aB az ax 0 0 0 0 0 0 0 x0).bind fun z=>match z with
 |.inl z1=>some (0,0,0,0,0,0,0,false)
 |.inr z2=>some (yPw z2 z2.1)
abbrev qQm:Type:=List zD→Int→List zK→EQ→AC→EQ→List zD→Option qRg
def HN (k:Nat)(rec:qQm):qQm:=fun s1 s2 af ai aj ah r2=>
 (R3 k af ai aj ah s1 s2).bind fun x0=>cond (!x0.2.2.2.2.2.2.2) (some (s1,af,ai,aj,ah,r2))<|(vv k af ai aj ah [(vV x0)]).bind fun x1=>(oF k s1 x0.1).bind fun x2=>cond (zL (r2.length+1) 56) (let y0:List zD:=(r2++[(vV x0)])
  rec x2.1 s2 x1.1 x1.2.1 x1.2.2.1 x1.2.2.2.1 y0) none
def MY (k:Nat):Nat→qQm
 |0,_,_,_,_,_,_,_=>none
 |n+1,s1,s2,af,ai,aj,ah,r2=>HN k (MY k n) s1 s2 af ai aj ah r2
def R4 (k:Nat)(au:List zK)(aB:EQ)(az:AC)(ax:EQ)(a1:List zD)(a2:Int):Option tI:=
 (MY k k a1 a2 au aB az ax []).bind fun z=>some (iN z (z.1,z.2.2.2.2.2))
abbrev qTz:Type:=(Int×(List zK)×EQ×AC×EQ×Int×Int×Int×Int×Int×Int×Int×Int×Int×Int×Int×Int×Int×Int×(List zD))⊕(Bool×Int×Int×Int×Int×Int×Int×Int×Int×Int×Int×Int×Int×Int×Int)
abbrev qV1:Type:=Int→Int→List zK→EQ→AC→EQ→Int→Int→Int→Int→Int→Int→Int→Int→Int→Int→Int→Int→Int→Int→List zD→Option qTz
def HO (k:Nat)(rec:qV1):qV1:=fun av aP af ai aj ah aw aD aE aG aJ aK aL bd bW bX cV fm fq ft r3=>
 cond (decide (aP<r3.length)) (cond (zB av r3.length) (cond (zB aP r3.length) (cond (!(decide ((r3.getD aP.toNat ama).2.1=(r3.getD av.toNat ama).2.2.1))) (rec av (zA (aP+1)) af ai aj ah aw aD aE aG aJ aK aL bd bW bX cV fm fq ft r3)<|cond (!(decide ((r3.getD aP.toNat ama).2.2.1=(r3.getD av.toNat ama).2.1))) (rec av (zA (aP+1)) af ai aj ah aw aD aE aG aJ aK aL bd bW bX cV fm fq ft r3)<|cond (decide ((r3.getD av.toNat ama).2.1≥(r3.getD aP.toNat ama).2.1)) (rec av (zA (aP+1)) af ai aj ah aw aD aE aG aJ aK aL bd bW bX cV fm fq ft r3)<|(vv k af ai aj ah [(r3.getD av.toNat ama),(r3.getD aP.toNat ama)]).bind fun x1=>cond x1.2.2.2.2 (some (.inr (true,(gi (r3.getD av.toNat ama) ((r3.getD aP.toNat ama).1,(r3.getD aP.toNat ama).2.1,(r3.getD aP.toNat ama).2.2.1,(r3.getD aP.toNat ama).2.2.2.1,(r3.getD aP.toNat ama).2.2.2.2.1,(r3.getD aP.toNat ama).2.2.2.2.2.1,(r3.getD aP.toNat ama).2.2.2.2.2.2)))))<|rec av (zA (aP+1)) af ai aj ah aw aD aE aG aJ aK aL bd bW bX cV fm fq ft r3) none) none)<|some (.inl (av,af,ai,aj,ah,aw,aD,aE,aG,aJ,aK,aL,bd,bW,bX,cV,fm,fq,ft,r3))
def M3 (k:Nat):Nat→qV1
 |0,_,_,_,_,_,_,_,_,_,_,_,_,_,_,_,_,_,_,_,_,_=>none
 |n+1,av,aP,af,ai,aj,ah,aw,aD,aE,aG,aJ,aK,aL,bd,bW,bX,cV,fm,fq,ft,r3=>HO k (M3 k n) av aP af ai aj ah aw aD aE aG aJ aK aL bd bW bX cV fm fq ft r3
abbrev qP5:Type:=(Int×Int×Int×Int×Int×Int×Int×Int×Int×Int×Int×Int×Int×Int)⊕(Bool×Int×Int×Int×Int×Int×Int×Int×Int×Int×Int×Int×Int×Int×Int)
abbrev yB2:Type:=Int→List zK→EQ→AC→EQ→Int→Int→Int→Int→Int→Int→Int→Int→Int→Int→Int→Int→Int→Int→List zD→Option qP5
def HP (k:Nat)(rec:yB2):yB2:=fun av af ai aj ah aw aD aE aG aJ aK aL bd bW bX cV fm fq ft r3=>
 cond (decide (av<r3.length)) ((M3 k k av 0 af ai aj ah aw aD aE aG aJ aK aL bd bW bX cV fm fq ft r3).bind fun z=>match z with
  |.inl z1=>rec (zA (z1.1+1)) z1.2.1 z1.2.2.1 z1.2.2.2.1 z1.2.2.2.2.1 z1.2.2.2.2.2.1 z1.2.2.2.2.2.2.1 z1.2.2.2.2.2.2.2.1 z1.2.2.2.2.2.2.2.2.1 z1.2.2.2.2.2.2.2.2.2.1 z1.2.2.2.2.2.2.2.2.2.2.1 z1.2.2.2.2.2.2.2.2.2.2.2.1 z1.2.2.2.2.2.2.2.2.2.2.2.2.1 z1.2.2.2.2.2.2.2.2.2.2.2.2.2.1 z1.2.2.2.2.2.2.2.2.2.2.2.2.2.2.1 z1.2.2.2.2.2.2.2.2.2.2.2.2.2.2.2.1 z1.2.2.2.2.2.2.2.2.2.2.2.2.2.2.2.2.1 z1.2.2.2.2.2.2.2.2.2.2.2.2.2.2.2.2.2.1 z1.2.2.2.2.2.2.2.2.2.2.2.2.2.2.2.2.2.2.1 z1.2.2.2.2.2.2.2.2.2.2.2.2.2.2.2.2.2.2.2
  |.inr z2=>some (.inr (z2.1,z2.2.1,z2.2.2.1,z2.2.2.2.1,z2.2.2.2.2.1,z2.2.2.2.2.2.1,z2.2.2.2.2.2.2.1,z2.2.2.2.2.2.2.2.1,z2.2.2.2.2.2.2.2.2.1,z2.2.2.2.2.2.2.2.2.2.1,z2.2.2.2.2.2.2.2.2.2.2.1,z2.2.2.2.2.2.2.2.2.2.2.2.1,z2.2.2.2.2.2.2.2.2.2.2.2.2.1,z2.2.2.2.2.2.2.2.2.2.2.2.2.2.1,z2.2.2.2.2.2.2.2.2.2.2.2.2.2.2)))<|some (.inl (aw,aD,aE,aG,aJ,aK,aL,bd,bW,bX,cV,fm,fq,ft))
def M4 (k:Nat):Nat→yB2
 |0,_,_,_,_,_,_,_,_,_,_,_,_,_,_,_,_,_,_,_,_=>none
 |n+1,av,af,ai,aj,ah,aw,aD,aE,aG,aJ,aK,aL,bd,bW,bX,cV,fm,fq,ft,r3=>HP k (M4 k n) av af ai aj ah aw aD aE aG aJ aK aL bd bW bX cV fm fq ft r3
def R5 (k:Nat)(au:List zK)(aB:EQ)(az:AC)(ax:EQ)(a1:List zD)(a2:Int):Option (Int×Int×Int×Int×Int×Int×Int×Int×Int×Int×Int×Int×Int×Int×Bool):=
 (LL k a1 a2).bind fun x0=>(M4 k k 0 au aB az ax 0 0 0 0 0 0 0 0 0 0 0 0 0 0 x0).bind fun z3=>match z3 with
 |.inl z4=>some (0,0,0,0,0,0,0,0,0,0,0,0,0,0,false)
 |.inr z5=>some (ai7 z5 z5.1)
def HQ (k:Nat)(rec:qQm):qQm:=fun s1 s2 af ai aj ah r2=>
 (R5 k af ai aj ah s1 s2).bind fun x0=>cond (!x0.2.2.2.2.2.2.2.2.2.2.2.2.2.2) (some (s1,af,ai,aj,ah,r2))<|(vv k af ai aj ah [(vV x0),(qNq x0)]).bind fun x1=>(oF k s1 x0.1).bind fun x2=>(oF k x2.1 x0.2.2.2.2.2.2.2.1).bind fun x3=>cond (zL (r2.length+2) 56) (let y0:List zD:=(r2++[(vV x0),(qNq x0)])
  rec x3.1 s2 x1.1 x1.2.1 x1.2.2.1 x1.2.2.2.1 y0) none
def M5 (k:Nat):Nat→qQm
 |0,_,_,_,_,_,_,_=>none
 |n+1,s1,s2,af,ai,aj,ah,r2=>HQ k (M5 k n) s1 s2 af ai aj ah r2
def R6 (k:Nat)(au:List zK)(aB:EQ)(az:AC)(ax:EQ)(a1:List zD)(a2:Int):Option tI:=
 (M5 k k a1 a2 au aB az ax []).bind fun z=>some (iN z (z.1,z.2.2.2.2.2))
def HZ (k:Nat)(rec:qQm):qQm:=fun s1 s2 af ai aj ah r2=>
 (R4 k af ai aj ah s1 s2).bind fun x0=>(R6 k x0.1 x0.2.1 x0.2.2.1 x0.2.2.2.1 x0.2.2.2.2.1 s2).bind fun x1=>cond (zL (r2.length+x0.2.2.2.2.2.length) 56) (cond (zL ((r2++x0.2.2.2.2.2).length+x1.2.2.2.2.2.length) 56) (let y0:List zD:=((r2++x0.2.2.2.2.2)++x1.2.2.2.2.2)
   cond (decide ((x1.2.2.2.2.2.length:Int)=0)) (some (x1.2.2.2.2.1,(vR x1 y0)))<|rec x1.2.2.2.2.1 s2 x1.1 x1.2.1 x1.2.2.1 x1.2.2.2.1 y0) none) none
def M8 (k:Nat):Nat→qQm
 |0,_,_,_,_,_,_,_=>none
 |n+1,s1,s2,af,ai,aj,ah,r2=>HZ k (M8 k n) s1 s2 af ai aj ah r2
def M9 (k:Nat)(au:List zK)(aB:EQ)(az:AC)(ax:EQ)(a1:List zD)(a2:Int):Option tI:=
 (M8 k k a1 a2 au aB az ax []).bind fun z=>some (iN z (z.1,z.2.2.2.2.2))
abbrev qMx:Type:=List zD→AC→Int→List zD→Option qVz
def HT (k:Nat)(rec:qMx):qMx:=fun s0 s1 s6 r0=>
 cond (decide (s6<s0.length)) (cond ((decide (0≤s6))&&(decide (s6≤s0.length))) (cond (zB s6 s0.length) ((uS k (List.take s6.toNat s0) (s0.getD s6.toNat ama).2.1).bind fun x0=>cond (zB s6 s0.length) (cond (decide ((s0.getD s6.toNat ama).2.1≥0)) (cond (zB s6 s0.length) (cond (decide ((s0.getD s6.toNat ama).2.1<s1.length)) (cond (zB s6 s0.length) (cond (zB (s0.getD s6.toNat ama).2.1 s1.length) (cond (decide ((x0.length : Int)<(s1.getD (s0.getD s6.toNat ama).2.1.toNat 0))) (cond (zB s6 s0.length) (cond (zL (r0.length+1) 56) (let y0:List zD:=(r0++[(s0.getD s6.toNat ama)])
             rec s0 s1 (zA (s6+1)) y0) none) none)<|rec s0 s1 (zA (s6+1)) r0) none) none)<|rec s0 s1 (zA (s6+1)) r0) none)<|rec s0 s1 (zA (s6+1)) r0) none) none) none)<|some r0
def HS (k:Nat):Nat→qMx
 |0,_,_,_,_=>none
 |n+1,s0,s1,s6,r0=>HT k (HS k n) s0 s1 s6 r0
def HR (k:Nat)(a0:List zD)(a1:AC):Option (List zD):=
 (HS k k a0 a1 0 []).bind fun z=>some z
abbrev qXs:Type:=(List zK)×EQ×AC×EQ×(List zD)×AC
abbrev qWp:Type:=Int→List zK→EQ→AC→EQ→List zD→AC→Option qXs
def HU (k:Nat)(rec:qWp):qWp:=fun av af ai aj ah r1 r2=>
 cond (decide (av<af.length)) ((uS k r1 av).bind fun x1=>cond (zL (r2.length+1) 8) (rec (zA (av+1)) af ai aj ah r1 (r2++[(x1.length:Int)])) none)<|some (af,ai,aj,ah,r1,r2)
def CQ (k:Nat):Nat→qWp
 |0,_,_,_,_,_,_,_=>none
 |n+1,av,af,ai,aj,ah,r1,r2=>HU k (CQ k n) av af ai aj ah r1 r2
abbrev yC4:Type:=Int×(List zK)×EQ×AC×EQ×(List zD)×AC
abbrev qQ6:Type:=Int→Int→List zK→EQ→AC→EQ→List zD→AC→AC→Option yC4
def HW (k:Nat)(rec:qQ6):qQ6:=fun aP bm af ai aj ah r1 r2 r3=>
 cond (decide (bm<r3.length)) (cond (zB bm r3.length) (cond (zB (r3.getD bm.toNat 0) r2.length) (cond (zB (r3.getD bm.toNat 0) r2.length) (let y0:AC:=(r2.set (r3.getD bm.toNat 0).toNat (zA ((r2.getD (r3.getD bm.toNat 0).toNat 0)-1)))
     rec aP (zA (bm+1)) af ai aj ah r1 y0 r3) none) none) none)<|some (aP,af,ai,aj,ah,r1,r2)
def HV (k:Nat):Nat→qQ6
 |0,_,_,_,_,_,_,_,_,_=>none
 |n+1,aP,bm,af,ai,aj,ah,r1,r2,r3=>HW k (HV k n) aP bm af ai aj ah r1 r2 r3
abbrev qY3:Type:=Int→List zK→EQ→AC→EQ→List zD→AC→Option (Int×AC)
def HX (k:Nat)(rec:qY3):qY3:=fun aP af ai aj ah r1 r2=>
 (HR k r1 r2).bind fun x2=>(uP k af ai aj ah x2).bind fun x3=>cond (decide ((x3.length:Int)=0)) (some (aP,r2))<|(HV k k aP 0 af ai aj ah r1 r2 x3).bind fun z1=>rec (zA (z1.1+1)) z1.2.1 z1.2.2.1 z1.2.2.2.1 z1.2.2.2.2.1 z1.2.2.2.2.2.1 z1.2.2.2.2.2.2
def M6 (k:Nat):Nat→qY3
 |0,_,_,_,_,_,_,_=>none
 |n+1,aP,af,ai,aj,ah,r1,r2=>HX k (M6 k n) aP af ai aj ah r1 r2
def R7 (k:Nat)(au:List zK)(aB:EQ)(az:AC)(ax:EQ)(a1:List zD)(a2:Int):Option (AC×Int):=
 (F4 k a1 a2).bind fun x0=>(CQ k k 0 au aB az ax x0 []).bind fun z=>(M6 k k 1 z.1 z.2.1 z.2.2.1 z.2.2.2.1 z.2.2.2.2.1 z.2.2.2.2.2).bind fun z2=>some (z2.2,z2.1)
abbrev yAq:Type:=(List zD)×(List zD)×(List zK)×EQ×AC×EQ
abbrev yCc:Type:=List zD→Int→List zD→List zK→EQ→AC→EQ→Option yAq
def HY (k:Nat)(rec:yCc):yCc:=fun s1 bh r1 bd bW bX cV=>
 cond (decide (bh<r1.length)) (cond (zB bh r1.length) ((oF k s1 (r1.getD bh.toNat ama).1).bind fun x4=>rec x4.1 (zA (bh+1)) r1 bd bW bX cV) none)<|some (s1,r1,bd,bW,bX,cV)
def CR (k:Nat):Nat→yCc
 |0,_,_,_,_,_,_,_=>none
 |n+1,s1,bh,r1,bd,bW,bX,cV=>HY k (CR k n) s1 bh r1 bd bW bX cV
def M7 (k:Nat)(au:List zK)(aB:EQ)(az:AC)(ax:EQ)(a1:List zD)(a2:Int):Option tI:=
 (R7 k au aB az ax a1 a2).bind fun x0=>(F4 k a1 a2).bind fun x1=>(HR k x1 x0.1).bind fun x2=>(Cb k au aB az ax x2).bind fun x3=>cond (!(decide (x3.2.2.2.2=0))) (some (au,aB,az,ax,a1,[]))<|(CR k k a1 0 x2 x3.1 x3.2.1 x3.2.2.1 x3.2.2.2.1).bind fun z=>some (CK z (z.1,z.2.1))
def R8 (k:Nat)(au:List zK)(aB:EQ)(az:AC)(ax:EQ)(a1:List zD)(a2:Int)(a3:Bool):Option tI:=
 (M9 k au aB az ax a1 a2).bind fun x0=>cond (!a3) (some (x0.1,x0.2.1,x0.2.2.1,x0.2.2.2.1,x0.2.2.2.2.1,x0.2.2.2.2.2))<|(M7 k x0.1 x0.2.1 x0.2.2.1 x0.2.2.2.1 x0.2.2.2.2.1 a2).bind fun x1=>cond (decide ((x1.2.2.2.2.2.length:Int)=0)) (some (x0.1,x0.2.1,x0.2.2.1,x0.2.2.2.1,x0.2.2.2.2.1,x0.2.2.2.2.2))<|(M9 k x1.1 x1.2.1 x1.2.2.1 x1.2.2.2.1 x1.2.2.2.2.1 a2).bind fun x2=>cond (zL (x0.2.2.2.2.2.length+x1.2.2.2.2.2.length) 56) (cond (zL ((x0.2.2.2.2.2++x1.2.2.2.2.2).length+x2.2.2.2.2.2.length) 56) (let y0:List zD:=((x0.2.2.2.2.2++x1.2.2.2.2.2)++x2.2.2.2.2.2)
   some (fL x2 y0)) none) none
abbrev qUx:Type:=List zD→Int→List zW→Option qOq
def G2 (k:Nat)(rec:qUx):qUx:=fun s0 s4 r0=>
 cond (decide (s4<s0.length)) (cond (zB s4 s0.length) ((fK k 18 [(s0.getD s4.toNat ama).1,(s0.getD s4.toNat ama).2.1,(s0.getD s4.toNat ama).2.2.1,(s0.getD s4.toNat ama).2.2.2.1]).bind fun x0=>cond (zL (r0.length+2) 64) (let y0:List zW:=(r0++[((s0.getD s4.toNat ama).2.1,x0),((s0.getD s4.toNat ama).2.2.1,x0)])
    rec s0 (zA (s4+1)) y0) none) none)<|some r0
def Mr (k:Nat):Nat→qUx
 |0,_,_,_=>none
 |n+1,s0,s4,r0=>G2 k (Mr k n) s0 s4 r0
def Rt (k:Nat)(a0:List zD):Option (List zW):=
 (Mr k k a0 0 []).bind fun z=>some z
def oG (k:Nat)(mO:Int)(rI:List zK)(rJ:EQ)(rK:AC)(rL:EQ)(rM:AC)(rN:EQ)(mP:List zD)(rO:AC)(rP:Int)(rQ a1:Bool):Option Uf:=
 (R8 k rI rJ rK rL mP mO a1).bind fun x0=>(Rt k x0.2.2.2.2.2).bind fun x1=>some (mO,(vR x0 (rM,rN,x0.2.2.2.2.1,rO,rP,rQ,x1)))
abbrev yAm:Type:=yA×yS×(List zW)
abbrev qY7:Type:=List zD→Int→yA→yS→List zW→Option yAm
def H0 (k:Nat)(rec:qY7):qY7:=fun s7 s8 b0 b1 r2=>
 cond (decide (s8<s7.length)) (cond (zB s8 s7.length) (cond (zB s8 s7.length) ((fK k 22 [(s7.getD s8.toNat ama).1]).bind fun x1=>cond (zL (r2.length+1) 64) (let y0:List zW:=(r2++[((s7.getD s8.toNat ama).2.1,x1)])
     rec s7 (zA (s8+1)) b0 b1 y0) none) none) none)<|some (b0,b1,r2)
def zq (k:Nat):Nat→qY7:=qY (fun _ _ _ _ _=>none) (H0 k)
abbrev yBe:Type:=Int→yA→yS→List zW→Option yAm
def H2 (k:Nat)(rec:yBe):yBe:=fun s9 b0 b1 r2=>
 cond (decide (s9<b0.2.1.length)) (cond (zB s9 b0.2.1.length) ((fK k 23 [(b0.2.1.getD s9.toNat ala).1]).bind fun x2=>cond (zL (r2.length+1) 64) (rec (zA (s9+1)) b0 b1 (r2++[(s9,x2)])) none) none)<|some (b0,b1,r2)
def zr (k:Nat):Nat→yBe:=qY (fun _ _ _ _=>none) (H2 k)
abbrev yAb:Type:=qW×yA×yS×(List zW)
abbrev yEz:Type:=List zD→Int→qW→yA→yS→List zW→Option yAb
def H3 (k:Nat)(rec:yEz):yEz:=fun s7 av b0 b1 b2 r3=>
 cond (decide (av<s7.length)) (cond (zB av s7.length) ((qU5 k (s7.getD av.toNat ama).1 (s7.getD av.toNat ama).2.1 (s7.getD av.toNat ama).2.2.1 (s7.getD av.toNat ama).2.2.2.1 (s7.getD av.toNat ama).2.2.2.2.1 (s7.getD av.toNat ama).2.2.2.2.2.1 (s7.getD av.toNat ama).2.2.2.2.2.2 b1.1).bind fun x3=>cond x3 (cond (zB av s7.length) (cond (zB av s7.length) ((fK k 21 [(s7.getD av.toNat ama).1]).bind fun x4=>cond (zL (r3.length+1) 64) (let y1:List zW:=(r3++[((s7.getD av.toNat ama).2.1,x4)])
       cond (zB av s7.length) ((oF k b1.2.2.2.2.2.2.2.1 (s7.getD av.toNat ama).1).bind fun x5=>rec s7 (zA (av+1)) b0 (ku b1 (x5.1,b1.2.2.2.2.2.2.2.2)) b2 y1) none) none) none) none)<|rec s7 (zA (av+1)) b0 b1 b2 r3) none)<|some (b0,b1,b2,r3)
def vw (k:Nat):Nat→yEz:=qY (fun _ _ _ _ _ _=>none) (H3 k)
def H4 (k:Nat)(a0:qW)(a1:yA):Option (yA×(List zW)):=
 cond a1.2.2.2.2.2.2.2.2.2.2 (some (a1,[]))<|(R9 k a0 (zA (a1.1+1))).bind fun x0=>cond x0 ((zq k k a1.2.2.2.2.2.2.2.1 0 ((zA (a1.1+1)),a1.2) (0,0,false) []).bind fun z=>(zr k k 0 z.1 z.2.1 z.2.2).bind fun z1=>some ((ku z1.1 ([],z1.1.2.2.2.2.2.2.2.2.1,z1.1.2.2.2.2.2.2.2.2.2.1,true)),z1.2.2))<|(vw k k a1.2.2.2.2.2.2.2.1 0 a0 ((zA (a1.1+1)),a1.2) (0,0,false) []).bind fun z2=>(Na k z2.1 z2.2.1.1).bind fun x6=>(oG k z2.2.1.1 z2.2.1.2.1 z2.2.1.2.2.1 z2.2.1.2.2.2.1 z2.2.1.2.2.2.2.1 z2.2.1.2.2.2.2.2.1 z2.2.1.2.2.2.2.2.2.1 z2.2.1.2.2.2.2.2.2.2.1 z2.2.1.2.2.2.2.2.2.2.2.1 z2.2.1.2.2.2.2.2.2.2.2.2.1 z2.2.1.2.2.2.2.2.2.2.2.2.2 x6).bind fun x7=>cond (zL (z2.2.2.2.length+x7.2.2.2.2.2.2.2.2.2.2.2.length) 64) (let y2:List zW:=(z2.2.2.2++x7.2.2.2.2.2.2.2.2.2.2.2)
  some ((qO x7),y2)) none
def vr (k:Nat)(a0:wu)(a1:Int):Option Int:=
 cond (decide (a1<0)) (some (-1))<|cond (decide (a1≥a0.1)) (some (-1))<|some a1
def HI (k:Nat)(a0:qW)(a1 a2:Int):Option Int:=
 cond (decide (a1≥a0.2.2.2.1)) (some 7)<|cond (decide (a2=3)) (cond (decide (a1≥a0.2.2.1)) (some 7)<|some 0)<|some 0
def CM (k:Nat)(a0:qW)(a1:Int)(a2:zD):Option Int:=
 cond (decide (a2.1<1)) (some 1)<|cond (decide (a2.2.1<0)) (some 1)<|cond (decide (a2.2.1≥a0.1)) (some 1)<|cond (decide (a2.2.2.1<0)) (some 1)<|cond (decide (a2.2.2.1≥a0.1)) (some 1)<|cond (decide (a2.2.1=a2.2.2.1)) (some 1)<|cond (decide (a2.2.2.2.1<1)) (some 1)<|cond (decide (a2.2.2.2.1>1099511627776)) (some 1)<|cond (decide (a2.2.2.2.2.1<1)) (some 1)<|cond (decide (a2.2.2.2.2.1>3)) (some 1)<|cond (decide (a2.2.2.2.2.2.1<0)) (some 1)<|cond (decide (a2.2.2.2.2.2.1>a2.2.2.2.2.2.2)) (some 1)<|cond (decide (a2.2.2.2.2.2.2<a1)) (some 1)<|cond (decide (a2.2.2.2.2.2.2>1048576)) (some 1)<|(HI k a0 a1 a2.2.2.2.2.1).bind fun x0=>some x0
def tv (k:Nat)(rec:yCz):yCz:=fun s0 s1 s5=>
 cond (decide (s5<s0.length)) (cond (zB s5 s0.length) (cond (decide ((s0.getD s5.toNat 0)=s1)) (some (.inr true))<|rec s0 s1 (zA (s5+1))) none)<|some (.inl ())
def tu (k:Nat):Nat→yCz:=qY (fun _ _ _=>none) (tv k)
def CI (k:Nat)(a0:AC)(a1:Int):Option Bool:=
 (tu k k a0 a1 0).bind fun z=>match z with
 |.inl z1=>some false
 |.inr z2=>some z2
abbrev yFw:Type:=AC→Int→Int→Option (AC×Int×Int)
def HA (k:Nat)(rec:yFw):yFw:=fun s0 s1 s6=>
 cond (decide (s6<s0.length)) (cond (zB s6 s0.length) (cond (decide ((s0.getD s6.toNat 0)<s1)) (rec s0 s1 (zA (s6+1)))<|some (s0,s1,s6)) none)<|some (s0,s1,s6)
def MP (k:Nat):Nat→yFw:=qY (fun _ _ _=>none) (HA k)
def CJ (k:Nat)(a0:AC)(a1:Int):Option (AC×Int):=
 (CI k a0 a1).bind fun x0=>cond x0 (some (a0,6))<|cond (decide ((a0.length:Int)≥200)) (some (a0,3))<|(MP k k a0 a1 0).bind fun z=>cond ((decide (0≤z.2.2))&&(decide (z.2.2≤z.1.length))) (cond (zL (0+(List.take z.2.2.toNat z.1).length) 8) (cond (zL ((List.take z.2.2.toNat z.1).length+1) 8) (cond ((decide (0≤z.2.2))&&(decide (z.2.2≤z.1.length))) (cond (zL (((List.take z.2.2.toNat z.1)++[z.2.1]).length+(List.drop z.2.2.toNat z.1).length) 8) (let y0:AC:=(((List.take z.2.2.toNat z.1)++[z.2.1])++(List.drop z.2.2.toNat z.1))
      some (y0,0)) none) none) none) none) none
def Hs (k:Nat)(cj bj bB cy bN cd bP ij cz dz eA dA jk jl:Int):Option Bool:=
 cond (decide (bj<cz)) (some true)<|cond (decide (bj=cz)) (some (decide (bN≤dA)))<|some false
abbrev qSw:Type:=List zD→Int→Int→Int→Int→Int→Int→Int→Int→Option Int
def Hy (k:Nat)(rec:qSw):qSw:=fun s0 s5 af ai aj ah bb bp bq=>
 cond (decide (s5<s0.length)) (cond (zB s5 s0.length) ((Hs k (s0.getD s5.toNat ama).1 (s0.getD s5.toNat ama).2.1 (s0.getD s5.toNat ama).2.2.1 (s0.getD s5.toNat ama).2.2.2.1 (s0.getD s5.toNat ama).2.2.2.2.1 (s0.getD s5.toNat ama).2.2.2.2.2.1 (s0.getD s5.toNat ama).2.2.2.2.2.2 af ai aj ah bb bp bq).bind fun x0=>cond x0 (rec s0 (zA (s5+1)) af ai aj ah bb bp bq)<|some s5) none)<|some s5
def Hw (k:Nat):Nat→qSw
 |0,_,_,_,_,_,_,_,_,_=>none
 |n+1,s0,s5,af,ai,aj,ah,bb,bp,bq=>Hy k (Hw k n) s0 s5 af ai aj ah bb bp bq
def Hv (k:Nat)(a0:List zD)(ij cz dz eA dA jk jl:Int):Option Int:=
 (Hw k k a0 0 ij cz dz eA dA jk jl).bind fun z=>some z
def CG (k:Nat)(a0:List zD)(a1 ai8 ai9 aja ajb ajc ajd aje:Int):Option (List zD):=
 cond ((decide (0≤a1))&&(decide (a1≤a0.length))) (cond (zL (0+(List.take a1.toNat a0).length) 56) (cond (zL ((List.take a1.toNat a0).length+1) 56) (let y0:List zD:=((List.take a1.toNat a0)++[(ai8,ai9,aja,ajb,ajc,ajd,aje)])
    cond ((decide (0≤a1))&&(decide (a1≤a0.length))) (cond (zL (y0.length+(List.drop a1.toNat a0).length) 56) (some (y0++(List.drop a1.toNat a0))) none) none) none) none) none
def CH (k:Nat)(a0:List zD)(ij cz dz eA dA jk jl:Int):Option ((List zD)×Int):=
 (mE k a0 ij).bind fun x0=>cond (decide (x0≥0)) (some (a0,6))<|cond (decide ((a0.length:Int)≥40)) (some (a0,3))<|(Hv k a0 ij cz dz eA dA jk jl).bind fun x1=>(CG k a0 x1 ij cz dz eA dA jk jl).bind fun x2=>some (x2,0)
def RZ (k:Nat)(a0:rR)(a1:Ow):Option (Int×wu):=
 (vr k (yL a0 ([],a0.2.2.2.2.2.2.2.2.2.2.2.2.2.2.2.2.2)) a1.2.1).bind fun x0=>cond (decide (a1.2.2.2.1≥1)) (cond (decide (a1.2.2.2.1≤3)) ((CM k (yC a0) a0.2.2.2.2.2.1 (a1.1,a0.2.2.2.2.2.2.2.2.2.2.2.2.2.2.2.2.1,x0,a1.2.2)).bind fun x1=>cond (!(decide (x1=0))) (some (x1,(yL a0 ([],a0.2.2.2.2.2.2.2.2.2.2.2.2.2.2.2.2.2))))<|(CJ k a0.2.2.2.2.2.2.2.2.2.2.2.2.2.1 a1.1).bind fun x2=>cond (!(decide (x2.2=0))) (some (x2.2,(yL a0 ([],a0.2.2.2.2.2.2.2.2.2.2.2.2.2.2.2.2.2))))<|(CH k a0.2.2.2.2.2.2.2.2.2.2.2.2.1 a1.1 a0.2.2.2.2.2.2.2.2.2.2.2.2.2.2.2.2.1 x0 a1.2.2.1 a1.2.2.2.1 a1.2.2.2.2.1 a1.2.2.2.2.2).bind fun x3=>cond (!(decide (x3.2=0))) (some (x3.2,(yL a0 ([],a0.2.2.2.2.2.2.2.2.2.2.2.2.2.2.2.2.2))))<|some (0,(kA a0 (x3.1,x2.1,a0.2.2.2.2.2.2.2.2.2.2.2.2.2.2.1,a0.2.2.2.2.2.2.2.2.2.2.2.2.2.2.2.1,a0.2.2.2.2.2.2.2.2.2.2.2.2.2.2.2.2.1,[],a1.1))))<|(CM k (yC a0) a0.2.2.2.2.2.1 (a1.1,a0.2.2.2.2.2.2.2.2.2.2.2.2.2.2.2.2.1,x0,a1.2.2.1,0,a1.2.2.2.2)).bind fun x4=>cond (!(decide (x4=0))) (some (x4,(yL a0 ([],a0.2.2.2.2.2.2.2.2.2.2.2.2.2.2.2.2.2))))<|(CJ k a0.2.2.2.2.2.2.2.2.2.2.2.2.2.1 a1.1).bind fun x5=>cond (!(decide (x5.2=0))) (some (x5.2,(yL a0 ([],a0.2.2.2.2.2.2.2.2.2.2.2.2.2.2.2.2.2))))<|(CH k a0.2.2.2.2.2.2.2.2.2.2.2.2.1 a1.1 a0.2.2.2.2.2.2.2.2.2.2.2.2.2.2.2.2.1 x0 a1.2.2.1 0 a1.2.2.2.2.1 a1.2.2.2.2.2).bind fun x6=>cond (!(decide (x6.2=0))) (some (x6.2,(yL a0 ([],a0.2.2.2.2.2.2.2.2.2.2.2.2.2.2.2.2.2))))<|some (0,(kA a0 (x6.1,x5.1,a0.2.2.2.2.2.2.2.2.2.2.2.2.2.2.1,a0.2.2.2.2.2.2.2.2.2.2.2.2.2.2.2.1,a0.2.2.2.2.2.2.2.2.2.2.2.2.2.2.2.2.1,[],a1.1))))<|(CM k (yC a0) a0.2.2.2.2.2.1 (a1.1,a0.2.2.2.2.2.2.2.2.2.2.2.2.2.2.2.2.1,x0,a1.2.2.1,0,a1.2.2.2.2)).bind fun x7=>cond (!(decide (x7=0))) (some (x7,(yL a0 ([],a0.2.2.2.2.2.2.2.2.2.2.2.2.2.2.2.2.2))))<|(CJ k a0.2.2.2.2.2.2.2.2.2.2.2.2.2.1 a1.1).bind fun x8=>cond (!(decide (x8.2=0))) (some (x8.2,(yL a0 ([],a0.2.2.2.2.2.2.2.2.2.2.2.2.2.2.2.2.2))))<|(CH k a0.2.2.2.2.2.2.2.2.2.2.2.2.1 a1.1 a0.2.2.2.2.2.2.2.2.2.2.2.2.2.2.2.2.1 x0 a1.2.2.1 0 a1.2.2.2.2.1 a1.2.2.2.2.2).bind fun x9=>cond (!(decide (x9.2=0))) (some (x9.2,(yL a0 ([],a0.2.2.2.2.2.2.2.2.2.2.2.2.2.2.2.2.2))))<|some (0,(kA a0 (x9.1,x8.1,a0.2.2.2.2.2.2.2.2.2.2.2.2.2.2.1,a0.2.2.2.2.2.2.2.2.2.2.2.2.2.2.2.1,a0.2.2.2.2.2.2.2.2.2.2.2.2.2.2.2.2.1,[],a1.1)))
def vE2 (k:Nat)(a0:wu)(a1:Int):Option (zD×Bool):=
 (mE k a0.2.2.2.2.2.2.2.2.2.2.2.2.1 a1).bind fun x0=>cond (decide (x0<0)) (some ((0,0,0,0,0,0,0),false))<|cond (zB x0 a0.2.2.2.2.2.2.2.2.2.2.2.2.1.length) (cond (!(decide ((a0.2.2.2.2.2.2.2.2.2.2.2.2.1.getD x0.toNat ama).2.1=a0.2.2.2.2.2.2.2.2.2.2.2.2.2.2.2.2.1))) (some ((0,0,0,0,0,0,0),false))<|cond (zB x0 a0.2.2.2.2.2.2.2.2.2.2.2.2.1.length) (some ((a0.2.2.2.2.2.2.2.2.2.2.2.2.1.getD x0.toNat ama),true)) none) none
def Hz (k:Nat)(rec:qNc):qNc:=fun s6 s9 b0=>
 cond (decide (s9<s6.length)) (cond (zB s9 s6.length) ((Hs k b0.1 b0.2.1 b0.2.2.1 b0.2.2.2.1 b0.2.2.2.2.1 b0.2.2.2.2.2.1 b0.2.2.2.2.2.2 (s6.getD s9.toNat ama).1 (s6.getD s9.toNat ama).2.1 (s6.getD s9.toNat ama).2.2.1 (s6.getD s9.toNat ama).2.2.2.1 (s6.getD s9.toNat ama).2.2.2.2.1 (s6.getD s9.toNat ama).2.2.2.2.2.1 (s6.getD s9.toNat ama).2.2.2.2.2.2).bind fun x1=>cond (!x1) (rec s6 (zA (s9+1)) b0)<|some (s6,s9,b0)) none)<|some (s6,s9,b0)
def MO (k:Nat):Nat→qNc:=qY (fun _ _ _=>none) (Hz k)
def MM (k:Nat)(a0:List zD)(a1:Int):Option ((List zD)×Int):=
 (oF k a0 a1).bind fun x0=>cond (!(decide (x0.2.2.2.2.2.2.2.2=0))) (some (a0,x0.2.2.2.2.2.2.2.2))<|(MO k k x0.1 0 (Tm x0)).bind fun z=>(CG k z.1 z.2.1 z.2.2.1 z.2.2.2.1 z.2.2.2.2.1 z.2.2.2.2.2.1 z.2.2.2.2.2.2.1 z.2.2.2.2.2.2.2.1 z.2.2.2.2.2.2.2.2).bind fun x2=>some (x2,0)
def ML (k:Nat)(a0:List zD)(a1:Int):Option ((List zD)×Int):=
 (oF k a0 a1).bind fun x0=>cond (!(decide (x0.2.2.2.2.2.2.2.2=0))) (some (a0,x0.2.2.2.2.2.2.2.2))<|(Hv k x0.1 x0.2.1 x0.2.2.1 x0.2.2.2.1 x0.2.2.2.2.1 x0.2.2.2.2.2.1 x0.2.2.2.2.2.2.1 x0.2.2.2.2.2.2.2.1).bind fun x1=>(CG k x0.1 x1 x0.2.1 x0.2.2.1 x0.2.2.2.1 x0.2.2.2.2.1 x0.2.2.2.2.2.1 x0.2.2.2.2.2.2.1 x0.2.2.2.2.2.2.2.1).bind fun x2=>some (x2,0)
def MK (k:Nat)(a0:List zD)(a1 a2:Int):Option ((List zD)×Int):=
 (oF k a0 a1).bind fun x0=>cond (!(decide (x0.2.2.2.2.2.2.2.2=0))) (some (a0,x0.2.2.2.2.2.2.2.2))<|(Hv k x0.1 x0.2.1 x0.2.2.1 x0.2.2.2.1 x0.2.2.2.2.1 a2 x0.2.2.2.2.2.2.1 x0.2.2.2.2.2.2.2.1).bind fun x1=>(CG k x0.1 x1 x0.2.1 x0.2.2.1 x0.2.2.2.1 x0.2.2.2.2.1 a2 x0.2.2.2.2.2.2.1 x0.2.2.2.2.2.2.2.1).bind fun x2=>some (x2,0)
def CO (k:Nat)(a0:rR)(a1:Int)(a2:Ow):Option (Int×wu):=
 (vE2 k (yL a0 ([],a0.2.2.2.2.2.2.2.2.2.2.2.2.2.2.2.2.2)) a2.1).bind fun x0=>cond (!x0.2) (some (4,(yL a0 ([],a0.2.2.2.2.2.2.2.2.2.2.2.2.2.2.2.2.2))))<|cond (decide (a1=2)) ((oF k a0.2.2.2.2.2.2.2.2.2.2.2.2.1 a2.1).bind fun x1=>(fK k 20 [a2.1]).bind fun x2=>some (0,(kA a0 (x1.1,(Ug a0 ([(a0.2.2.2.2.2.2.2.2.2.2.2.2.2.2.2.2.1,x2)],a0.2.2.2.2.2.2.2.2.2.2.2.2.2.2.2.2.2))))))<|cond (decide (a1=3)) (cond (decide (a2.2.1=0)) ((MM k a0.2.2.2.2.2.2.2.2.2.2.2.2.1 a2.1).bind fun x3=>some (0,(kA a0 (x3.1,(Ug a0 ([],a0.2.2.2.2.2.2.2.2.2.2.2.2.2.2.2.2.2))))))<|cond (decide (a2.2.1=1)) ((ML k a0.2.2.2.2.2.2.2.2.2.2.2.2.1 a2.1).bind fun x4=>some (0,(kA a0 (x4.1,(Ug a0 ([],a0.2.2.2.2.2.2.2.2.2.2.2.2.2.2.2.2.2))))))<|some (1,(yL a0 ([],a0.2.2.2.2.2.2.2.2.2.2.2.2.2.2.2.2.2))))<|cond (decide (a2.2.1<1)) (some (1,(yL a0 ([],a0.2.2.2.2.2.2.2.2.2.2.2.2.2.2.2.2.2))))<|cond (decide (a2.2.1>3)) (some (1,(yL a0 ([],a0.2.2.2.2.2.2.2.2.2.2.2.2.2.2.2.2.2))))<|(HI k (yC a0) a0.2.2.2.2.2.1 a2.2.1).bind fun x5=>cond (!(decide (x5=0))) (some (x5,(yL a0 ([],a0.2.2.2.2.2.2.2.2.2.2.2.2.2.2.2.2.2))))<|(MK k a0.2.2.2.2.2.2.2.2.2.2.2.2.1 a2.1 a2.2.1).bind fun x6=>some (0,(kA a0 (x6.1,(Ug a0 ([],a0.2.2.2.2.2.2.2.2.2.2.2.2.2.2.2.2.2)))))
def CP (k:Nat)(a0:rR)(a1:Int)(a2:Ow):Option (Int×wu):=
 (pw k a0.2.2.2.2.2.2.1 a0.2.2.2.2.2.2.2.1 a0.2.2.2.2.2.2.2.2.1 a0.2.2.2.2.2.2.2.2.2.1).bind fun x0=>cond (decide (a1=5)) ((vr k (yL a0 ([],a0.2.2.2.2.2.2.2.2.2.2.2.2.2.2.2.2.2)) a2.1).bind fun x1=>cond (decide (x1<0)) (some (1,(yL a0 ([],a0.2.2.2.2.2.2.2.2.2.2.2.2.2.2.2.2.2))))<|cond (decide (x1=a0.2.2.2.2.2.2.2.2.2.2.2.2.2.2.2.2.1)) (some (1,(yL a0 ([],a0.2.2.2.2.2.2.2.2.2.2.2.2.2.2.2.2.2))))<|cond (decide (a2.2.1<(-1))) (some (1,(yL a0 ([],a0.2.2.2.2.2.2.2.2.2.2.2.2.2.2.2.2.2))))<|cond (decide (a2.2.1>1152921504606846976)) (some (1,(yL a0 ([],a0.2.2.2.2.2.2.2.2.2.2.2.2.2.2.2.2.2))))<|cond (zB a0.2.2.2.2.2.2.2.2.2.2.2.2.2.2.2.2.1 x0.2.1.length) (cond (zB x1 (x0.2.1.getD a0.2.2.2.2.2.2.2.2.2.2.2.2.2.2.2.2.1.toNat []).length) (let y0:EQ:=(x0.2.1.set a0.2.2.2.2.2.2.2.2.2.2.2.2.2.2.2.2.1.toNat ((x0.2.1.getD a0.2.2.2.2.2.2.2.2.2.2.2.2.2.2.2.2.1.toNat []).set x1.toNat a2.2.1))
    some (0,(jF a0 (x0.1,y0,x0.2.2.1,x0.2.2.2,(yDa a0 ([],a0.2.2.2.2.2.2.2.2.2.2.2.2.2.2.2.2.2)))))) none) none)<|cond (decide (a1=6)) (cond (decide (a2.1<(-1))) (some (1,(yL a0 ([],a0.2.2.2.2.2.2.2.2.2.2.2.2.2.2.2.2.2))))<|cond (decide (a2.1>1152921504606846976)) (some (1,(yL a0 ([],a0.2.2.2.2.2.2.2.2.2.2.2.2.2.2.2.2.2))))<|cond (zB a0.2.2.2.2.2.2.2.2.2.2.2.2.2.2.2.2.1 x0.2.2.1.length) (let y1:AC:=(x0.2.2.1.set a0.2.2.2.2.2.2.2.2.2.2.2.2.2.2.2.2.1.toNat a2.1)
   some (0,(jF a0 (x0.1,x0.2.1,y1,x0.2.2.2,(yDa a0 ([],a0.2.2.2.2.2.2.2.2.2.2.2.2.2.2.2.2.2)))))) none)<|cond (decide (a2.1<0)) (some (1,(yL a0 ([],a0.2.2.2.2.2.2.2.2.2.2.2.2.2.2.2.2.2))))<|cond (decide (a2.1>1152921504606846976)) (some (1,(yL a0 ([],a0.2.2.2.2.2.2.2.2.2.2.2.2.2.2.2.2.2))))<|cond (zB a0.2.2.2.2.2.2.2.2.2.2.2.2.2.2.2.2.1 x0.1.length) (let y2:List zK:=(x0.1.set a0.2.2.2.2.2.2.2.2.2.2.2.2.2.2.2.2.1.toNat ((x0.1.getD a0.2.2.2.2.2.2.2.2.2.2.2.2.2.2.2.2.1.toNat ala).1,(x0.1.getD a0.2.2.2.2.2.2.2.2.2.2.2.2.2.2.2.2.1.toNat ala).2.1,a2.1))
  some (0,(jF a0 (y2,x0.2.1,x0.2.2.1,x0.2.2.2,(yDa a0 ([],a0.2.2.2.2.2.2.2.2.2.2.2.2.2.2.2.2.2)))))) none
def vt (k:Nat)(a0:AC)(a1 a2:Int):Option AC:=
 cond (zL (0+a0.length) 8) (cond (decide (a1≥0)) (cond (decide (a1<a0.length)) (cond (zB a1 a0.length) (some (a0.set a1.toNat a2)) none)<|some a0)<|some a0) none
def RM (k:Nat)(a0:Int):Option AC:=
 some [(yM .i64 a0 65535),(yM .i64 (shr .i64 a0 16) 65535),(yM .i64 (shr .i64 a0 32) 65535),(yM .i64 (shr .i64 a0 48) 65535)]
def yPa (k:Nat)(rec:Int→AC→Option AC)(s3:Int)(r0:AC):Option AC:=
 cond (decide ((zA (s3+1))<r0.length)) (cond (zB (zA (s3+1)) r0.length) (cond (zB s3 r0.length) (cond (zB (zA (s3+1)) r0.length) (let y0:AC:=(r0.set (zA (s3+1)).toNat (zA ((r0.getD (zA (s3+1)).toNat 0)+(shr .i64 (r0.getD s3.toNat 0) 16))))
     cond (zB s3 y0.length) (cond (zB s3 y0.length) (rec (zA (s3+1)) (y0.set s3.toNat (yM .i64 (y0.getD s3.toNat 0) 65535))) none) none) none) none) none)<|some r0
def qYa (k:Nat):Nat→Int→AC→Option AC:=qY (fun _ _=>none) (yPa k)
def Ho (k:Nat)(a0:AC):Option AC:=
 (qYa k k 0 a0).bind fun z=>some z
abbrev qSt:Type:=Int×Int×AC×AC
abbrev qXw:Type:=Int→Int→Int→AC→AC→Option qSt
def yN1 (k:Nat)(rec:qXw):qXw:=fun s1 s7 s8 r0 r1=>
 cond (decide (s8<4)) (cond (!(decide ((IntKind.wrap .u64 ((zA (16 * s8))))<0))) (cond (zB (zA (s7+s8)) r1.length) (cond (zB s7 r0.length) (cond (zB (zA (s7+s8)) r1.length) (let y0:AC:=(r1.set (zA (s7+s8)).toNat (zA ((r1.getD (zA (s7+s8)).toNat 0)+(zA ((r0.getD s7.toNat 0)*(yM .i64 (shr .i64 s1 (IntKind.wrap .u64 ((zA (16*s8))))) 65535))))))
      rec s1 s7 (zA (s8+1)) r0 y0) none) none) none) none)<|some (s1,s7,r0,r1)
def qP0 (k:Nat):Nat→qXw:=qY (fun _ _ _ _ _=>none) (yN1 k)
abbrev qUe:Type:=Int→Int→AC→AC→Option AC
def yQ6 (k:Nat)(rec:qUe):qUe:=fun s1 s7 r0 r1=>
 cond (decide (s7<4)) ((qP0 k k s1 s7 0 r0 r1).bind fun z=>rec z.1 (zA (z.2.1+1)) z.2.2.1 z.2.2.2)<|some r1
def RJ (k:Nat):Nat→qUe:=qY (fun _ _ _ _=>none) (yQ6 k)
def RK (k:Nat)(a0 a1:Int):Option AC:=
 (RM k a0).bind fun x0=>(RJ k k a1 0 x0 [0,0,0,0,0,0,0,0,0]).bind fun z1=>(Ho k z1).bind fun x1=>some x1
def vJ5 (k:Nat)(rec:Int→Int→AC→Option AC)(s1 s5:Int)(r0:AC):Option AC:=
 cond (decide (s5<r0.length)) (cond (zB s5 r0.length) (cond (zB s5 r0.length) (rec s1 (zA (s5+1)) (r0.set s5.toNat (zA ((r0.getD s5.toNat 0)*s1)))) none) none)<|some r0
def RH (k:Nat):Nat→Int→Int→AC→Option AC:=qY (fun _ _ _=>none) (vJ5 k)
def RG (k:Nat)(a0:AC)(a1:Int):Option AC:=
 (RH k k a1 0 a0).bind fun z=>(Ho k z).bind fun x0=>some x0
def vEs (k:Nat)(rec:qNi):qNi:=fun s1 s6 s7 r0=>
 cond (decide (s7≥0)) (cond (zB s7 r0.length) (cond (!(decide (s1=0))) (cond (zB s7 r0.length) (let y0:AC:=(r0.set s7.toNat (zA (Int.tdiv (zA ((shl .i64 s6 16)+(r0.getD s7.toNat 0))) s1)))
     cond (!(decide (s1=0))) (rec s1 (Int.tmod (zA ((shl .i64 s6 16)+(r0.getD s7.toNat 0))) s1) (zA (s7-1)) y0) none) none) none) none)<|some r0
def MF (k:Nat):Nat→qNi:=qY (fun _ _ _ _=>none) (vEs k)
abbrev qYf:Type:=Int→AC→Option (AC⊕eX)
def vBj (k:Nat)(rec:qYf):qYf:=fun s9 r0=>
 cond (decide (s9<r0.length)) (cond (zB s9 r0.length) (cond (!(decide ((r0.getD s9.toNat 0)=0))) (some (.inr (0,false)))<|rec (zA (s9+1)) r0) none)<|some (.inl r0)
def Hq (k:Nat):Nat→qYf:=qY (fun _ _=>none) (vBj k)
def RI (k:Nat)(a0:AC)(a1:Int):Option eX:=
 (MF k k a1 0 (zA ((a0.length:Int)-1)) a0).bind fun z=>(Hq k k 4 z).bind fun z1=>match z1 with
 | .inl z2=>cond (zB 3 z2.length) (cond (decide ((z2.getD 3 0)≥32768)) (some (0,false))<|cond (zB 3 z2.length) (cond (zB 2 z2.length) (cond (zB 1 z2.length) (cond (zB 0 z2.length) (some ((wV .i64 (wV .i64 (wV .i64 (shl .i64 (z2.getD 3 0) 48) (shl .i64 (z2.getD 2 0) 32)) (shl .i64 (z2.getD 1 0) 16)) (z2.getD 0 0)),true)) none) none) none) none)<|none
 |.inr z3=>some (z3.1,z3.2)
def RT (k:Nat)(a0 a1 a2:Int):Option eX:=
 cond (decide (a0<0)) (some (0,false))<|cond (decide (a1<0)) (some (0,false))<|cond (decide (a2<0)) (some (0,false))<|cond (decide (a2>10000)) (some (0,false))<|(RK k a0 a1).bind fun x0=>(RG k x0 (zA (10000-a2))).bind fun x1=>(RI k x1 10000).bind fun x2=>some (x2.1,x2.2)
def Ht (k:Nat)(a0 a1:Int):Option eX:=
 cond (decide (a1>0)) (cond (decide (a0>(zA (9223372036854775807-a1)))) (some (0,false))<|cond (decide (a1<0)) (cond (decide (a0<(zA ((-9223372036854775808)-a1)))) (some (0,false))<|some ((zA (a0+a1)),true))<|some ((zA (a0+a1)),true))<|cond (decide (a1<0)) (cond (decide (a0<(zA ((-9223372036854775808)-a1)))) (some (0,false))<|some ((zA (a0+a1)),true))<|some ((zA (a0+a1)),true)
abbrev qS1:Type:=List vW→AC→AC→Int→Int→Option (Int⊕eX)
def Hu (k:Nat)(rec:qS1):qS1:=fun s0 s1 s2 s8 s9=>
 cond (decide (s9<s0.length)) (cond (zB s9 s1.length) (cond (zB s9 s2.length) (cond (zB s9 s0.length) ((RT k (s1.getD s9.toNat 0) (s2.getD s9.toNat 0) (s0.getD s9.toNat (0,0)).2).bind fun x0=>(Ht k s8 x0.1).bind fun x1=>cond (!x0.2) (some (.inr (0,false)))<|cond (!x1.2) (some (.inr (0,false)))<|rec s0 s1 s2 x1.1 (zA (s9+1))) none) none) none)<|some (.inl s8)
def MJ (k:Nat):Nat→qS1:=qY (fun _ _ _ _ _=>none) (Hu k)
def zo (k:Nat)(a0:List vW)(a1 a2:AC):Option eX:=
 cond (!(decide ((a1.length:Int)=(a0.length:Int)))) (some (0,false))<|cond (!(decide ((a2.length:Int)=(a0.length:Int)))) (some (0,false))<|(MJ k k a0 a1 a2 0 0).bind fun z=>match z with
 |.inl z1=>some (z1,true)
 |.inr z2=>some (z2.1,z2.2)
def R0 (k:Nat)(a0:rR)(a1 a2:Int):Option (Int×wu):=
 cond (decide (a1<0)) (some (1,(yL a0 ([],a0.2.2.2.2.2.2.2.2.2.2.2.2.2.2.2.2.2))))<|cond (decide (a1≥a0.2.1.length)) (some (1,(yL a0 ([],a0.2.2.2.2.2.2.2.2.2.2.2.2.2.2.2.2.2))))<|cond (decide (a2<0)) (some (1,(yL a0 ([],a0.2.2.2.2.2.2.2.2.2.2.2.2.2.2.2.2.2))))<|cond (decide (a2>1099511627776)) (some (1,(yL a0 ([],a0.2.2.2.2.2.2.2.2.2.2.2.2.2.2.2.2.2))))<|cond (zB a0.2.2.2.2.2.2.2.2.2.2.2.2.2.2.2.2.1 a0.2.2.2.2.2.2.2.2.2.2.2.1.length) ((vt k (a0.2.2.2.2.2.2.2.2.2.2.2.1.getD a0.2.2.2.2.2.2.2.2.2.2.2.2.2.2.2.2.1.toNat []) a1 a2).bind fun x0=>(zo k a0.2.1 a0.2.2.2.2.2.2.2.2.2.2.1 x0).bind fun x1=>cond (!x1.2) (some (8,(yL a0 ([],a0.2.2.2.2.2.2.2.2.2.2.2.2.2.2.2.2.2))))<|cond (decide (x1.1>1152921504606846976)) (some (8,(yL a0 ([],a0.2.2.2.2.2.2.2.2.2.2.2.2.2.2.2.2.2))))<|(pw k a0.2.2.2.2.2.2.1 a0.2.2.2.2.2.2.2.1 a0.2.2.2.2.2.2.2.2.1 a0.2.2.2.2.2.2.2.2.2.1).bind fun x2=>cond (zB a0.2.2.2.2.2.2.2.2.2.2.2.2.2.2.2.2.1 x2.1.length) (cond (decide (x1.1<(x2.1.getD a0.2.2.2.2.2.2.2.2.2.2.2.2.2.2.2.2.1.toNat ala).2.1)) (cond (decide ((zA ((x2.1.getD a0.2.2.2.2.2.2.2.2.2.2.2.2.2.2.2.2.1.toNat ala).1+x1.1))<0)) (some (9,(yL a0 ([],a0.2.2.2.2.2.2.2.2.2.2.2.2.2.2.2.2.2))))<|cond (zB a0.2.2.2.2.2.2.2.2.2.2.2.2.2.2.2.2.1 x2.1.length) (let y0:List zK:=(x2.1.set a0.2.2.2.2.2.2.2.2.2.2.2.2.2.2.2.2.1.toNat ((x2.1.getD a0.2.2.2.2.2.2.2.2.2.2.2.2.2.2.2.2.1.toNat ala).1,x1.1,(x2.1.getD a0.2.2.2.2.2.2.2.2.2.2.2.2.2.2.2.2.1.toNat ala).2.2))
     cond (zL (0+a0.2.2.2.2.2.2.2.2.2.2.2.1.length) 24) (cond (zB a0.2.2.2.2.2.2.2.2.2.2.2.2.2.2.2.2.1 a0.2.2.2.2.2.2.2.2.2.2.2.1.length) (let y1:EQ:=(a0.2.2.2.2.2.2.2.2.2.2.2.1.set a0.2.2.2.2.2.2.2.2.2.2.2.2.2.2.2.2.1.toNat x0)
       some (0,(jF a0 (y0,x2.2.1,x2.2.2.1,x2.2.2.2,a0.2.2.2.2.2.2.2.2.2.2.1,y1,(qPk a0 ([],a0.2.2.2.2.2.2.2.2.2.2.2.2.2.2.2.2.2)))))) none) none) none)<|cond (zB a0.2.2.2.2.2.2.2.2.2.2.2.2.2.2.2.2.1 x2.1.length) (let y2:List zK:=(x2.1.set a0.2.2.2.2.2.2.2.2.2.2.2.2.2.2.2.2.1.toNat ((x2.1.getD a0.2.2.2.2.2.2.2.2.2.2.2.2.2.2.2.2.1.toNat ala).1,x1.1,(x2.1.getD a0.2.2.2.2.2.2.2.2.2.2.2.2.2.2.2.2.1.toNat ala).2.2))
    cond (zL (0+a0.2.2.2.2.2.2.2.2.2.2.2.1.length) 24) (cond (zB a0.2.2.2.2.2.2.2.2.2.2.2.2.2.2.2.2.1 a0.2.2.2.2.2.2.2.2.2.2.2.1.length) (let y3:EQ:=(a0.2.2.2.2.2.2.2.2.2.2.2.1.set a0.2.2.2.2.2.2.2.2.2.2.2.2.2.2.2.2.1.toNat x0)
      some (0,(jF a0 (y2,x2.2.1,x2.2.2.1,x2.2.2.2,a0.2.2.2.2.2.2.2.2.2.2.1,y3,(qPk a0 ([],a0.2.2.2.2.2.2.2.2.2.2.2.2.2.2.2.2.2)))))) none) none) none) none) none
def HJ (k:Nat)(a0:zK)(a1:Int):Option (zK×Int):=
 (Ht k a0.1 a1).bind fun x0=>cond (!x0.2) (some (a0,8))<|(KX k x0.1 a0.2.1 a0.2.2).bind fun x1=>cond (!x1) (some (a0,8))<|some ((x0.1,a0.2),0)
def HK (k:Nat)(a0:rR)(a1:Bool)(a2 a3:Int):Option (Int×wu):=
 (vr k (yL a0 ([],a0.2.2.2.2.2.2.2.2.2.2.2.2.2.2.2.2.2)) a2).bind fun x0=>cond (decide (x0<0)) (some (1,(yL a0 ([],a0.2.2.2.2.2.2.2.2.2.2.2.2.2.2.2.2.2))))<|cond (decide (a3<1)) (some (1,(yL a0 ([],a0.2.2.2.2.2.2.2.2.2.2.2.2.2.2.2.2.2))))<|cond (decide (a3>1099511627776)) (some (1,(yL a0 ([],a0.2.2.2.2.2.2.2.2.2.2.2.2.2.2.2.2.2))))<|(pw k a0.2.2.2.2.2.2.1 a0.2.2.2.2.2.2.2.1 a0.2.2.2.2.2.2.2.2.1 a0.2.2.2.2.2.2.2.2.2.1).bind fun x1=>cond a1 (cond (zB x0 x1.1.length) ((HJ k (x1.1.getD x0.toNat ala) a3).bind fun x2=>cond (decide ((zA (a0.2.2.2.2.2.2.2.2.2.2.2.2.2.2.1+a3))>1152921504606846976)) (some (8,(yL a0 ([],a0.2.2.2.2.2.2.2.2.2.2.2.2.2.2.2.2.2))))<|cond (!(decide (x2.2=0))) (some (8,(yL a0 ([],a0.2.2.2.2.2.2.2.2.2.2.2.2.2.2.2.2.2))))<|cond (zB x0 x1.1.length) (some (0,(jF a0 ((x1.1.set x0.toNat x2.1),x1.2.1,x1.2.2.1,x1.2.2.2,(Jn a0 ((zA (a0.2.2.2.2.2.2.2.2.2.2.2.2.2.2.1+a3)),a0.2.2.2.2.2.2.2.2.2.2.2.2.2.2.2.1,a0.2.2.2.2.2.2.2.2.2.2.2.2.2.2.2.2.1,[],a0.2.2.2.2.2.2.2.2.2.2.2.2.2.2.2.2.2)))))) none) none)<|cond (zB x0 x1.1.length) (cond (decide ((zA ((zA ((x1.1.getD x0.toNat ala).1+(x1.1.getD x0.toNat ala).2.1))-(x1.1.getD x0.toNat ala).2.2))<a3)) (some (9,(yL a0 ([],a0.2.2.2.2.2.2.2.2.2.2.2.2.2.2.2.2.2))))<|cond (decide (a0.2.2.2.2.2.2.2.2.2.2.2.2.2.2.1<a3)) (some (9,(yL a0 ([],a0.2.2.2.2.2.2.2.2.2.2.2.2.2.2.2.2.2))))<|cond (zB x0 x1.1.length) (let y0:List zK:=(x1.1.set x0.toNat ((zA ((x1.1.getD x0.toNat ala).1-a3)),(x1.1.getD x0.toNat ala).2))
   some (0,(jF a0 (y0,x1.2.1,x1.2.2.1,x1.2.2.2,(Jn a0 ((zA (a0.2.2.2.2.2.2.2.2.2.2.2.2.2.2.1-a3)),a0.2.2.2.2.2.2.2.2.2.2.2.2.2.2.2.1,a0.2.2.2.2.2.2.2.2.2.2.2.2.2.2.2.2.1,[],a0.2.2.2.2.2.2.2.2.2.2.2.2.2.2.2.2.2)))))) none) none
abbrev yB9:Type:=(rR×AC×(List zK)×EQ×AC×EQ)⊕(Int×rR)
abbrev qUi:Type:=Int→rR→AC→List zK→EQ→AC→EQ→Option yB9
def HL (k:Nat)(rec:qUi):qUi:=fun s9 b0 r1 r3 m4 r5 m6=>
 cond (decide (s9<r3.length)) (cond (zB s9 b0.2.2.2.2.2.2.2.2.2.2.2.1.length) ((zo k b0.2.1 r1 (b0.2.2.2.2.2.2.2.2.2.2.2.1.getD s9.toNat [])).bind fun x2=>cond (!x2.2) (some (.inr (8,b0)))<|cond (decide (x2.1>1152921504606846976)) (some (.inr (8,b0)))<|cond (zB s9 r3.length) (let y0:List zK:=(r3.set s9.toNat ((r3.getD s9.toNat ala).1,x2.1,(r3.getD s9.toNat ala).2.2))
    rec (zA (s9+1)) b0 r1 y0 m4 r5 m6) none) none)<|some (.inl (b0,r1,r3,m4,r5,m6))
def vu (k:Nat):Nat→qUi:=qY (fun _ _ _ _ _ _ _=>none) (HL k)
def R1 (k:Nat)(a0:rR)(a1 a2:Int):Option (Int×wu):=
 cond (decide (a1<0)) (some (1,(yL a0 ([],a0.2.2.2.2.2.2.2.2.2.2.2.2.2.2.2.2.2))))<|cond (decide (a1≥a0.2.1.length)) (some (1,(yL a0 ([],a0.2.2.2.2.2.2.2.2.2.2.2.2.2.2.2.2.2))))<|cond (decide (a2<0)) (some (1,(yL a0 ([],a0.2.2.2.2.2.2.2.2.2.2.2.2.2.2.2.2.2))))<|cond (decide (a2>1048576)) (some (1,(yL a0 ([],a0.2.2.2.2.2.2.2.2.2.2.2.2.2.2.2.2.2))))<|(vt k a0.2.2.2.2.2.2.2.2.2.2.1 a1 a2).bind fun x0=>(pw k a0.2.2.2.2.2.2.1 a0.2.2.2.2.2.2.2.1 a0.2.2.2.2.2.2.2.2.1 a0.2.2.2.2.2.2.2.2.2.1).bind fun x1=>(vu k k 0 a0 x0 x1.1 x1.2.1 x1.2.2.1 x1.2.2.2).bind fun z=>match z with
 |.inl z1=>some (0,(jF z1.1 (CK z1 (z1.2.1,(yL6 z1.1 ([],z1.1.2.2.2.2.2.2.2.2.2.2.2.2.2.2.2.2.2))))))
 |.inr z2=>some (vDx z2 ([],z2.2.2.2.2.2.2.2.2.2.2.2.2.2.2.2.2.2.2))
def zu (k:Nat)(a0:rR)(a1:zD):Option (Int×wu):=
 cond (decide (a1.1=1)) ((RZ k a0 a1.2).bind fun x0=>some (x0.1,x0.2))<|cond (decide (a1.1=2)) ((CO k a0 a1.1 a1.2).bind fun x1=>some (x1.1,x1.2))<|cond (decide (a1.1=3)) ((CO k a0 a1.1 a1.2).bind fun x2=>some (x2.1,x2.2))<|cond (decide (a1.1=4)) ((CO k a0 a1.1 a1.2).bind fun x3=>some (x3.1,x3.2))<|cond (decide (a1.1=5)) ((CP k a0 a1.1 a1.2).bind fun x4=>some (x4.1,x4.2))<|cond (decide (a1.1=6)) ((CP k a0 a1.1 a1.2).bind fun x5=>some (x5.1,x5.2))<|cond (decide (a1.1=7)) ((CP k a0 a1.1 a1.2).bind fun x6=>some (x6.1,x6.2))<|cond (decide (a1.1=8)) ((R0 k a0 a1.2.1 a1.2.2.1).bind fun x7=>some (x7.1,x7.2))<|cond (decide (a1.1=10)) ((HK k a0 (decide (a1.1=10)) a1.2.1 a1.2.2.1).bind fun x8=>some (x8.1,x8.2))<|cond (decide (a1.1=11)) ((HK k a0 (decide (a1.1=10)) a1.2.1 a1.2.2.1).bind fun x9=>some (x9.1,x9.2))<|cond (decide (a1.1=12)) ((R1 k a0 a1.2.1 a1.2.2.1).bind fun bV=>some (bV.1,bV.2))<|some (0,(yL a0 ([],a0.2.2.2.2.2.2.2.2.2.2.2.2.2.2.2.2.2)))
def H7 (k:Nat)(a0:qW)(a1:yA)(a2:zW):Option (yA×(List zW)×Int):=
 (CU k a0 a2).bind fun x0=>cond (!x0) (some (a1,[],5))<|cond a1.2.2.2.2.2.2.2.2.2.2 (cond (!(decide (a2.2.1=9))) (some (a1,[],7))<|cond (decide (a2.2.1=9)) (cond (zB a2.1 a1.2.1.length) ((uS k a1.2.2.2.2.2.2.2.1 a2.1).bind fun x1=>(fK k 17 [(a1.2.1.getD a2.1.toNat ala).1,(a1.2.1.getD a2.1.toNat ala).2.1,(a1.2.1.getD a2.1.toNat ala).2.2,(x1.length:Int),a1.1]).bind fun x2=>some (a1,[(a2.1,x2)],0)) none)<|cond (decide (a2.2.1=14)) ((H4 k a0 a1).bind fun x3=>some (x3.1,x3.2,0))<|(zu k (vI a0 (vD a1 (a2.1,0))) a2.2).bind fun x4=>cond (!(decide (x4.1=0))) (some (a1,[],x4.1))<|cond (!(decide (a2.1=(-1)))) ((fK k 15 []).bind fun x5=>(oG k x4.2.2.2.2.2.2.1 x4.2.2.2.2.2.2.2.1 x4.2.2.2.2.2.2.2.2.1 x4.2.2.2.2.2.2.2.2.2.1 x4.2.2.2.2.2.2.2.2.2.2.1 x4.2.2.2.2.2.2.2.2.2.2.2.1 x4.2.2.2.2.2.2.2.2.2.2.2.2.1 x4.2.2.2.2.2.2.2.2.2.2.2.2.2.1 x4.2.2.2.2.2.2.2.2.2.2.2.2.2.2.1 x4.2.2.2.2.2.2.2.2.2.2.2.2.2.2.2.1 x4.2.2.2.2.2.2.2.2.2.2.2.2.2.2.2.2.1 (decide (a2.2.1=13))).bind fun x6=>cond (zL (1+x4.2.2.2.2.2.2.2.2.2.2.2.2.2.2.2.2.2.2.1.length) 64) (let y0:List zW:=([(a2.1,x5)]++x4.2.2.2.2.2.2.2.2.2.2.2.2.2.2.2.2.2.2.1)
    cond (zL (y0.length+x6.2.2.2.2.2.2.2.2.2.2.2.length) 64) (cond (decide (x4.2.2.2.2.2.2.2.2.2.2.2.2.2.2.2.2.2.2.2>0)) ((mE k x6.2.2.2.2.2.2.2.1 x4.2.2.2.2.2.2.2.2.2.2.2.2.2.2.2.2.2.2.2).bind fun x7=>cond (decide (x7≥0)) ((fK k 19 [x4.2.2.2.2.2.2.2.2.2.2.2.2.2.2.2.2.2.2.2]).bind fun x8=>cond (zL ((y0++x6.2.2.2.2.2.2.2.2.2.2.2).length+1) 64) (let y1:List zW:=((y0++x6.2.2.2.2.2.2.2.2.2.2.2)++[(a2.1,x8)])
        some ((qO x6),y1,0)) none)<|some ((qO x6),(y0++x6.2.2.2.2.2.2.2.2.2.2.2),0))<|some ((qO x6),(y0++x6.2.2.2.2.2.2.2.2.2.2.2),0)) none) none)<|(oG k x4.2.2.2.2.2.2.1 x4.2.2.2.2.2.2.2.1 x4.2.2.2.2.2.2.2.2.1 x4.2.2.2.2.2.2.2.2.2.1 x4.2.2.2.2.2.2.2.2.2.2.1 x4.2.2.2.2.2.2.2.2.2.2.2.1 x4.2.2.2.2.2.2.2.2.2.2.2.2.1 x4.2.2.2.2.2.2.2.2.2.2.2.2.2.1 x4.2.2.2.2.2.2.2.2.2.2.2.2.2.2.1 x4.2.2.2.2.2.2.2.2.2.2.2.2.2.2.2.1 x4.2.2.2.2.2.2.2.2.2.2.2.2.2.2.2.2.1 (decide (a2.2.1=13))).bind fun x9=>cond (zL x4.2.2.2.2.2.2.2.2.2.2.2.2.2.2.2.2.2.2.1.length 64) (let y2:List zW:=x4.2.2.2.2.2.2.2.2.2.2.2.2.2.2.2.2.2.2.1
   cond (zL (y2.length+x9.2.2.2.2.2.2.2.2.2.2.2.length) 64) (cond (decide (x4.2.2.2.2.2.2.2.2.2.2.2.2.2.2.2.2.2.2.2>0)) ((mE k x9.2.2.2.2.2.2.2.1 x4.2.2.2.2.2.2.2.2.2.2.2.2.2.2.2.2.2.2.2).bind fun bV=>cond (decide (bV≥0)) ((fK k 19 [x4.2.2.2.2.2.2.2.2.2.2.2.2.2.2.2.2.2.2.2]).bind fun cw=>cond (zL ((y2++x9.2.2.2.2.2.2.2.2.2.2.2).length+1) 64) (let y3:List zW:=((y2++x9.2.2.2.2.2.2.2.2.2.2.2)++[(a2.1,cw)])
       some ((qO x9),y3,0)) none)<|some ((qO x9),(y2++x9.2.2.2.2.2.2.2.2.2.2.2),0))<|some ((qO x9),(y2++x9.2.2.2.2.2.2.2.2.2.2.2),0)) none) none)<|cond (decide (a2.2.1=9)) (cond (zB a2.1 a1.2.1.length) ((uS k a1.2.2.2.2.2.2.2.1 a2.1).bind fun fM=>(fK k 17 [(a1.2.1.getD a2.1.toNat ala).1,(a1.2.1.getD a2.1.toNat ala).2.1,(a1.2.1.getD a2.1.toNat ala).2.2,(fM.length:Int),a1.1]).bind fun gj=>some (a1,[(a2.1,gj)],0)) none)<|cond (decide (a2.2.1=14)) ((H4 k a0 a1).bind fun kB=>some (kB.1,kB.2,0))<|(zu k (vI a0 (vD a1 (a2.1,0))) a2.2).bind fun bG=>cond (!(decide (bG.1=0))) (some (a1,[],bG.1))<|cond (!(decide (a2.1=(-1)))) ((fK k 15 []).bind fun iK=>(oG k bG.2.2.2.2.2.2.1 bG.2.2.2.2.2.2.2.1 bG.2.2.2.2.2.2.2.2.1 bG.2.2.2.2.2.2.2.2.2.1 bG.2.2.2.2.2.2.2.2.2.2.1 bG.2.2.2.2.2.2.2.2.2.2.2.1 bG.2.2.2.2.2.2.2.2.2.2.2.2.1 bG.2.2.2.2.2.2.2.2.2.2.2.2.2.1 bG.2.2.2.2.2.2.2.2.2.2.2.2.2.2.1 bG.2.2.2.2.2.2.2.2.2.2.2.2.2.2.2.1 bG.2.2.2.2.2.2.2.2.2.2.2.2.2.2.2.2.1 (decide (a2.2.1=13))).bind fun cc=>cond (zL (1+bG.2.2.2.2.2.2.2.2.2.2.2.2.2.2.2.2.2.2.1.length) 64) (let y4:List zW:=([(a2.1,iK)]++bG.2.2.2.2.2.2.2.2.2.2.2.2.2.2.2.2.2.2.1)
   cond (zL (y4.length+cc.2.2.2.2.2.2.2.2.2.2.2.length) 64) (cond (decide (bG.2.2.2.2.2.2.2.2.2.2.2.2.2.2.2.2.2.2.2>0)) ((mE k cc.2.2.2.2.2.2.2.1 bG.2.2.2.2.2.2.2.2.2.2.2.2.2.2.2.2.2.2.2).bind fun lz=>cond (decide (lz≥0)) ((fK k 19 [bG.2.2.2.2.2.2.2.2.2.2.2.2.2.2.2.2.2.2.2]).bind fun rS=>cond (zL ((y4++cc.2.2.2.2.2.2.2.2.2.2.2).length+1) 64) (let y5:List zW:=((y4++cc.2.2.2.2.2.2.2.2.2.2.2)++[(a2.1,rS)])
       some ((qO cc),y5,0)) none)<|some ((qO cc),(y4++cc.2.2.2.2.2.2.2.2.2.2.2),0))<|some ((qO cc),(y4++cc.2.2.2.2.2.2.2.2.2.2.2),0)) none) none)<|(oG k bG.2.2.2.2.2.2.1 bG.2.2.2.2.2.2.2.1 bG.2.2.2.2.2.2.2.2.1 bG.2.2.2.2.2.2.2.2.2.1 bG.2.2.2.2.2.2.2.2.2.2.1 bG.2.2.2.2.2.2.2.2.2.2.2.1 bG.2.2.2.2.2.2.2.2.2.2.2.2.1 bG.2.2.2.2.2.2.2.2.2.2.2.2.2.1 bG.2.2.2.2.2.2.2.2.2.2.2.2.2.2.1 bG.2.2.2.2.2.2.2.2.2.2.2.2.2.2.2.1 bG.2.2.2.2.2.2.2.2.2.2.2.2.2.2.2.2.1 (decide (a2.2.1=13))).bind fun ik=>cond (zL bG.2.2.2.2.2.2.2.2.2.2.2.2.2.2.2.2.2.2.1.length 64) (let y6:List zW:=bG.2.2.2.2.2.2.2.2.2.2.2.2.2.2.2.2.2.2.1
  cond (zL (y6.length+ik.2.2.2.2.2.2.2.2.2.2.2.length) 64) (cond (decide (bG.2.2.2.2.2.2.2.2.2.2.2.2.2.2.2.2.2.2.2>0)) ((mE k ik.2.2.2.2.2.2.2.1 bG.2.2.2.2.2.2.2.2.2.2.2.2.2.2.2.2.2.2.2).bind fun lA=>cond (decide (lA≥0)) ((fK k 19 [bG.2.2.2.2.2.2.2.2.2.2.2.2.2.2.2.2.2.2.2]).bind fun wv=>cond (zL ((y6++ik.2.2.2.2.2.2.2.2.2.2.2).length+1) 64) (let y7:List zW:=((y6++ik.2.2.2.2.2.2.2.2.2.2.2)++[(a2.1,wv)])
      some ((qO ik),y7,0)) none)<|some ((qO ik),(y6++ik.2.2.2.2.2.2.2.2.2.2.2),0))<|some ((qO ik),(y6++ik.2.2.2.2.2.2.2.2.2.2.2),0)) none) none
def pG (k:Nat)(aC:wA)(bC:wZ)(a1:AC):Option (Int×wA×wZ):=
 (Hn k bC (zA (aC.1+1)) (zA (1-aC.2.1)) a1).bind fun x0=>cond (decide (x0.1=0)) (some (x0.1,((zA (aC.1+1)),(zA (1-aC.2.1)),0,false),x0.2))<|some (x0.1,aC,x0.2)
abbrev yA5:Type:=(qW×yA)⊕Bool
abbrev qTg:Type:=Int→qW→yA→Option yA5
def Ii (k:Nat)(rec:qTg):qTg:=fun s5 b0 b1=>
 cond (decide (s5<b1.2.2.2.2.2.1.length)) (cond (zB s5 b1.2.2.2.2.2.1.length) (cond (decide ((b1.2.2.2.2.2.1.getD s5.toNat 0)<0)) (some (.inr false))<|cond (zB s5 b1.2.2.2.2.2.1.length) (cond (decide ((b1.2.2.2.2.2.1.getD s5.toNat 0)>1048576)) (some (.inr false))<|rec (zA (s5+1)) b0 b1) none) none)<|some (.inl (b0,b1))
def Av (k:Nat):Nat→qTg:=qY (fun _ _ _=>none) (Ii k)
abbrev qR8:Type:=(Int×qW×yA)⊕Bool
abbrev yDv:Type:=Int→Int→qW→yA→Option qR8
def Ij (k:Nat)(rec:yDv):yDv:=fun s6 s7 b0 b1=>
 cond (zB s6 b1.2.2.2.2.2.2.1.length) (cond (decide (s7<(b1.2.2.2.2.2.2.1.getD s6.toNat []).length)) (cond (zB s6 b1.2.2.2.2.2.2.1.length) (cond (zB s7 (b1.2.2.2.2.2.2.1.getD s6.toNat []).length) (cond (decide (((b1.2.2.2.2.2.2.1.getD s6.toNat []).getD s7.toNat 0)<0)) (some (.inr false))<|cond (zB s6 b1.2.2.2.2.2.2.1.length) (cond (zB s7 (b1.2.2.2.2.2.2.1.getD s6.toNat []).length) (cond (decide (((b1.2.2.2.2.2.2.1.getD s6.toNat []).getD s7.toNat 0)>1099511627776)) (some (.inr false))<|rec s6 (zA (s7+1)) b0 b1) none) none) none) none)<|some (.inl (s6,b0,b1))) none
def CZ (k:Nat):Nat→yDv:=qY (fun _ _ _ _=>none) (Ij k)
abbrev qWb:Type:=Int→qW→yA→Option (Unit⊕Bool)
def Ik (k:Nat)(rec:qWb):qWb:=fun s6 b0 b1=>
 cond (decide (s6<b0.1)) (cond (zB s6 b1.2.2.2.2.2.2.1.length) (cond (!(decide (((b1.2.2.2.2.2.2.1.getD s6.toNat []).length:Int)=(b0.2.1.length:Int)))) (some (.inr false))<|(CZ k k s6 0 b0 b1).bind fun z2=>match z2 with
   | .inl z3=>cond (zB z3.1 z3.2.2.2.2.2.2.2.2.1.length) ((zo k z3.2.1.2.1 z3.2.2.2.2.2.2.2.1 (z3.2.2.2.2.2.2.2.2.1.getD z3.1.toNat [])).bind fun x0=>cond (!x0.2) (some (.inr false))<|cond (decide (x0.1>1152921504606846976)) (some (.inr false))<|cond (zB z3.1 z3.2.2.2.1.length) (cond (!(decide ((z3.2.2.2.1.getD z3.1.toNat ala).2.1=x0.1))) (some (.inr false))<|rec (zA (z3.1+1)) z3.2.1 z3.2.2) none)<|none
   |.inr z4=>some (.inr z4)) none)<|some (.inl ())
def Aw (k:Nat):Nat→qWb:=qY (fun _ _ _=>none) (Ik k)
def Nn (k:Nat)(a0:qW)(a1:yA):Option Bool:=
 cond (!(decide ((a1.2.2.2.2.2.1.length:Int)=(a0.2.1.length:Int)))) (some false)<|cond (!(decide ((a1.2.2.2.2.2.2.1.length:Int)=a0.1))) (some false)<|(Av k k 0 a0 a1).bind fun z=>match z with
 |.inl z1=>(Aw k k 0 z1.1 z1.2).bind fun z5=>match z5 with
  |.inl z6=>some true
  |.inr z7=>some z7
 |.inr z8=>some z8
abbrev qTl:Type:=List zD→Int→Option yAc
def Ie (k:Nat)(rec:qTl):qTl:=fun s0 s3=>
 cond (decide (s3<s0.length)) (cond (zB s3 s0.length) ((mE k s0 (s0.getD s3.toNat ama).1).bind fun x0=>cond (!(decide (x0=s3))) (some (.inr false))<|cond (decide (s3>0)) (cond (zB (zA (s3 - 1)) s0.length) (cond (zB s3 s0.length) ((Hs k (s0.getD (zA (s3-1)).toNat ama).1 (s0.getD (zA (s3-1)).toNat ama).2.1 (s0.getD (zA (s3-1)).toNat ama).2.2.1 (s0.getD (zA (s3-1)).toNat ama).2.2.2.1 (s0.getD (zA (s3-1)).toNat ama).2.2.2.2.1 (s0.getD (zA (s3-1)).toNat ama).2.2.2.2.2.1 (s0.getD (zA (s3-1)).toNat ama).2.2.2.2.2.2 (s0.getD s3.toNat ama).1 (s0.getD s3.toNat ama).2.1 (s0.getD s3.toNat ama).2.2.1 (s0.getD s3.toNat ama).2.2.2.1 (s0.getD s3.toNat ama).2.2.2.2.1 (s0.getD s3.toNat ama).2.2.2.2.2.1 (s0.getD s3.toNat ama).2.2.2.2.2.2).bind fun x1=>cond (!x1) (some (.inr false))<|rec s0 (zA (s3+1))) none) none)<|rec s0 (zA (s3+1))) none)<|some (.inl s0)
def zx (k:Nat):Nat→qTl
 |0,_,_=>none
 |n+1,s0,s3=>Ie k (zx k n) s0 s3
def Nk (k:Nat)(a0:List zD):Option Bool:=
 (zx k k a0 0).bind fun z=>match z with
 |.inl z1=>some (decide ((z1.length:Int)≤40))
 |.inr z2=>some z2
abbrev qM6:Type:=AC→Int→Option (AC⊕Bool)
def Ig (k:Nat)(rec:qM6):qM6:=fun s0 s3=>
 cond (decide (s3<s0.length)) (cond (zB s3 s0.length) (cond (decide ((s0.getD s3.toNat 0)<1)) (some (.inr false))<|cond (decide (s3>0)) (cond (zB s3 s0.length) (cond (zB (zA (s3 - 1)) s0.length) (cond (decide ((s0.getD s3.toNat 0)≤(s0.getD (zA (s3-1)).toNat 0))) (some (.inr false))<|rec s0 (zA (s3+1))) none) none)<|rec s0 (zA (s3+1))) none)<|some (.inl s0)
def CY (k:Nat):Nat→qM6:=qY (fun _ _=>none) (Ig k)
def Nl (k:Nat)(a0:AC):Option Bool:=
 (CY k k a0 0).bind fun z=>match z with
 |.inl z1=>some (decide ((z1.length:Int)≤200))
 |.inr z2=>some z2
abbrev qWa:Type:=Int→yA→Option (Unit⊕Bool)
def Ih (k:Nat)(rec:qWa):qWa:=fun s3 b0=>
 cond (decide (s3<b0.2.2.2.2.2.2.2.1.length)) (cond (zB s3 b0.2.2.2.2.2.2.2.1.length) ((Qu k b0.2.1 b0.2.2.1 b0.2.2.2.1 b0.2.2.2.2.1 (b0.2.2.2.2.2.2.2.1.getD s3.toNat ama).1 (b0.2.2.2.2.2.2.2.1.getD s3.toNat ama).2.1 (b0.2.2.2.2.2.2.2.1.getD s3.toNat ama).2.2.1 (b0.2.2.2.2.2.2.2.1.getD s3.toNat ama).2.2.2.1 (b0.2.2.2.2.2.2.2.1.getD s3.toNat ama).2.2.2.2.1 (b0.2.2.2.2.2.2.2.1.getD s3.toNat ama).2.2.2.2.2.1 (b0.2.2.2.2.2.2.2.1.getD s3.toNat ama).2.2.2.2.2.2).bind fun x2=>cond (!x2) (some (.inr false))<|cond (decide ((b0.2.2.2.2.2.2.2.1.getD s3.toNat ama).2.2.2.2.2.1<0)) (some (.inr false))<|cond (decide ((b0.2.2.2.2.2.2.2.1.getD s3.toNat ama).2.2.2.2.2.2<(b0.2.2.2.2.2.2.2.1.getD s3.toNat ama).2.2.2.2.2.1)) (some (.inr false))<|cond (decide ((b0.2.2.2.2.2.2.2.1.getD s3.toNat ama).2.2.2.2.2.2>1048576)) (some (.inr false))<|(CI k b0.2.2.2.2.2.2.2.2.1 (b0.2.2.2.2.2.2.2.1.getD s3.toNat ama).1).bind fun x3=>cond (!x3) (some (.inr false))<|rec (zA (s3+1)) b0) none)<|some (.inl ())
def zz (k:Nat):Nat→qWa:=qY (fun _ _=>none) (Ih k)
def Nm (k:Nat)(a0:yA):Option Bool:=
 (Nk k a0.2.2.2.2.2.2.2.1).bind fun x0=>cond (!x0) (some false)<|(Nl k a0.2.2.2.2.2.2.2.2.1).bind fun x1=>cond (!x1) (some false)<|(zz k k 0 a0).bind fun z=>match z with
 |.inl z1=>some true
 |.inr z2=>some z2
def Sk (k:Nat)(DB AZ a1:Int):Option vW:=
 some ((zA ((zA (DB+(shr .i64 a1 32)))+(shr .i64 (zA (AZ+(yM .i64 a1 4294967295))) 32))),(yM .i64 (zA (AZ+(yM .i64 a1 4294967295))) 4294967295))
abbrev qXq:Type:=AC→Int→Int→Int→Option vW
def Ic (k:Nat)(rec:qXq):qXq:=fun s0 s5 af ai=>
 cond (decide (s5<s0.length)) (cond (zB s5 s0.length) ((Sk k af ai (s0.getD s5.toNat 0)).bind fun x0=>rec s0 (zA (s5+1)) x0.1 x0.2) none)<|some (af,ai)
def Nj (k:Nat):Nat→qXq
 |0,_,_,_,_=>none
 |n+1,s0,s5,af,ai=>Ic k (Nj k n) s0 s5 af ai
def Ni (k:Nat)(a0:AC):Option eX:=
 (Nj k k a0 0 0 0).bind fun z=>cond (decide (z.1<(-2147483648))) (some (0,false))<|cond (decide (z.1≥2147483648)) (some (0,false))<|some ((zA ((shl .i64 z.1 32)+z.2)),true)
abbrev qVe:Type:=Int→qW→yA→AC→Option qOj
def Io (k:Nat)(rec:qVe):qVe:=fun s6 b0 b1 r2=>
 cond (decide (s6<b0.1)) (cond (zB s6 b1.2.1.length) (cond (zL (r2.length+1) 8) (let y0:AC:=(r2++[(b1.2.1.getD s6.toNat ala).1])
    rec (zA (s6+1)) b0 b1 y0) none) none)<|some (b0,b1,r2)
def C3 (k:Nat):Nat→qVe:=qY (fun _ _ _ _=>none) (Io k)
def Im (k:Nat)(a0:qW)(a1:yA):Option Bool:=
 cond (decide (a1.1<0)) (some false)<|cond (decide (a1.1>a0.2.2.2.1)) (some false)<|(Ff k a1.2.1 a1.2.2.1 a1.2.2.2.1 a1.2.2.2.2.1).bind fun x0=>cond (!x0) (some false)<|cond (!(decide ((a1.2.1.length:Int)=a0.1))) (some false)<|(Nn k a0 a1).bind fun x1=>cond (!x1) (some false)<|(Nm k a1).bind fun x2=>cond (!x2) (some false)<|(C3 k k 0 a0 a1 []).bind fun z=>(Ni k z.2.2).bind fun x3=>cond x3.2 (cond (decide (x3.1=z.2.1.2.2.2.2.2.2.2.2.2.1)) (cond (decide (x3.1≥0)) (cond (decide (x3.1≤1152921504606846976)) (cond (iR z.2.1.2.2.2.2.2.2.2.2.2.2 (decide (z.2.1.1=z.1.2.2.2.1))) (cond (!z.2.1.2.2.2.2.2.2.2.2.2.2) (some true)<|some (decide ((z.2.1.2.2.2.2.2.2.2.1.length:Int)=0)))<|some false)<|some false)<|some false)<|some false)<|some false
abbrev yGb:Type:=Int×Bool×A0×AC×AC×qW×wA×yA
abbrev qNb:Type:=Int→Bool→EQ→Int→A0→AC→AC→qW→wA→yA→Option yGb
def IS (k:Nat)(rec:qNb):qNb:=fun s2 bM aQ cQ b0 r1 r2 b3 b4 b5=>
 cond (decide (cQ<aQ.length)) (cond (zB cQ aQ.length) ((SC k (aQ.getD cQ.toNat [])).bind fun x8=>cond (decide (x8.2=0)) ((H7 k b3 b5 x8.1).bind fun x9=>rec s2 bM aQ (zA (cQ+1)) b0 r1 r2 b3 b4 x9.1)<|rec s2 bM aQ (zA (cQ+1)) b0 r1 r2 b3 b4 b5) none)<|some (s2,bM,b0,r1,r2,b3,b4,b5)
def tC (k:Nat):Nat→qNb:=qY (fun _ _ _ _ _ _ _ _ _ _=>none) (IS k)
def rD (k:Nat)(a0:qW)(a1:wZ)(a2:Int):Option ((Int×wZ×iO×wA)⊕(Int×wZ)):=
 (NI k a0).bind fun x0=>cond (!x0) (some (.inr (1,a1)))<|cond (decide (a2<1)) (some (.inr (1,a1)))<|cond (decide (a2>1000)) (some (.inr (1,a1)))<|(NA k a1).bind fun x1=>(wh k a0).bind fun x2=>(oD k x2).bind fun x3=>(yBd k a1 x3).bind fun x4=>match x4 with
 |.inl x5=>cond (!(decide (x5.2.2.1=0))) (some (.inr (x5.2.2.1,x5.2.2.2.1)))<|(IP k x5.1).bind fun x6=>cond (!x6.2) ((wh k a0).bind fun x7=>(tC k k a2 x1.2.2.2.2 x5.2.1 0 x5.2.2.2.1.2.2 x5.2.2.2.1.1 x5.2.2.2.1.2.1 a0 x5.2.2.2.2 x7).bind fun z=>cond z.2.1 ((oD k z.2.2.2.2.2.2.2).bind fun bV=>(pG k z.2.2.2.2.2.2.1 (z.2.2.2.1,z.2.2.2.2.1,z.2.2.1) bV).bind fun cw=>cond (!(decide (cw.1=0))) (some (.inr (cw.1,cw.2.2)))<|some (.inl (0,cw.2.2,(vI z.2.2.2.2.2.1 (lO z (z.1,false))),cw.2.1)))<|some (.inl (0,(z.2.2.2.1,z.2.2.2.2.1,z.2.2.1),(vI z.2.2.2.2.2.1 (lO z (z.1,false))),z.2.2.2.2.2.2.1)))<|(Im k a0 x6.1).bind fun fM=>cond (!fM) ((wh k a0).bind fun gj=>(tC k k a2 x1.2.2.2.2 x5.2.1 0 x5.2.2.2.1.2.2 x5.2.2.2.1.1 x5.2.2.2.1.2.1 a0 x5.2.2.2.2 gj).bind fun z1=>cond z1.2.1 ((oD k z1.2.2.2.2.2.2.2).bind fun kB=>(pG k z1.2.2.2.2.2.2.1 (z1.2.2.2.1,z1.2.2.2.2.1,z1.2.2.1) kB).bind fun bG=>cond (!(decide (bG.1=0))) (some (.inr (bG.1,bG.2.2)))<|some (.inl (0,bG.2.2,(vI z1.2.2.2.2.2.1 (lO z1 (z1.1,false))),bG.2.1)))<|some (.inl (0,(z1.2.2.2.1,z1.2.2.2.2.1,z1.2.2.1),(vI z1.2.2.2.2.2.1 (lO z1 (z1.1,false))),z1.2.2.2.2.2.2.1)))<|(tC k k a2 x1.2.2.2.2 x5.2.1 0 x5.2.2.2.1.2.2 x5.2.2.2.1.1 x5.2.2.2.1.2.1 a0 x5.2.2.2.2 x6.1).bind fun z2=>cond z2.2.1 ((oD k z2.2.2.2.2.2.2.2).bind fun iK=>(pG k z2.2.2.2.2.2.2.1 (z2.2.2.2.1,z2.2.2.2.2.1,z2.2.2.1) iK).bind fun cc=>cond (!(decide (cc.1=0))) (some (.inr (cc.1,cc.2.2)))<|some (.inl (0,cc.2.2,(vI z2.2.2.2.2.2.1 (lO z2 (z2.1,false))),cc.2.1)))<|some (.inl (0,(z2.2.2.2.1,z2.2.2.2.2.1,z2.2.2.1),(vI z2.2.2.2.2.2.1 (lO z2 (z2.1,false))),z2.2.2.2.2.2.2.1))
 |.inr lz=>cond (!(decide (lz.2.2.1=0))) (some (.inr (lz.2.2.1,lz.2.2.2)))<|(IP k lz.1).bind fun rS=>cond (!rS.2) ((wh k a0).bind fun ik=>none)<|(Im k a0 rS.1).bind fun lA=>cond (!lA) ((wh k a0).bind fun wv=>none) none
def NG (k:Nat)(a0 a1:Int):Option (List zW):=
 (fK k 16 [a1]).bind fun x0=>some [(a0,x0)]
def qWd (k:Nat)(a0:zD):Option (Unit⊕(AC)):=
 (tq k a0).bind fun x0=>cond (!x0) (some (.inl ()))<|(B4 k a0.1).bind fun x1=>cond ((decide (0≤x1))&&(decide (x1≤6))) ((yz k (qS [a0.2.1,a0.2.2.1,a0.2.2.2.1,a0.2.2.2.2.1,a0.2.2.2.2.2.1,a0.2.2.2.2.2.2] 0 (x1.toNat-0))).bind fun x2=>cond (zL (1+x2.length) 1) (some (.inr ([(IntKind.wrap .u8 (a0.1))]++x2))) none) none
def NC (k:Nat)(a0:zW):Option (Unit⊕(AC)):=
 (qWd k a0.2).bind fun x0=>match x0 with
 |.inl x1=>some (.inl ())
 | .inr x2=>cond (Nat.blt 0 x2.length) ((yz k [a0.1]).bind fun x3=>cond (zL (x3.length+x2.length) 1) (some (.inr (x3++x2))) none) none
def zb (k:Nat)(aC:wA)(bC:wZ)(a1:AC):Option (Int×wA×wZ):=
 (MD k a1).bind fun x0=>cond aC.2.2.2 (some (10,aC,bC))<|cond (!x0.2) (some (10,aC,bC))<|(Hl k bC aC.2.1 x0.1).bind fun x1=>cond (decide (x1.1=3)) (some (10,aC,x1.2))<|cond (decide (x1.1=0)) ((CE k x1.2).bind fun x2=>cond (decide (x2.1=0)) (some (x2.1,(aC.1,aC.2.1,(zA (aC.2.2.1+1)),aC.2.2.2),x2.2))<|some (x2.1,aC,x2.2))<|cond (decide (x1.1=0)) (some (x1.1,(aC.1,aC.2.1,(zA (aC.2.2.1+1)),aC.2.2.2),x1.2))<|some (x1.1,aC,x1.2)
def SE (k:Nat)(aC:iO)(bC:wA)(dr:wZ)(a1:zW):Option (Int×iO×wA×wZ):=
 (NC k a1).bind fun x0=>match x0 with
 |.inl x1=>(zb k bC dr []).bind fun x2=>cond (decide (x2.1=10)) ((oD k (iJ aC)).bind fun x3=>(pG k x2.2.1 x2.2.2 x3).bind fun x4=>cond (decide (x4.1=0)) ((zb k x4.2.1 x4.2.2 []).bind fun x5=>some (x5.1,aC,x5.2.1,x5.2.2))<|some (x4.1,aC,x4.2.1,x4.2.2))<|some (x2.1,aC,x2.2.1,x2.2.2)
 |.inr x6=>(zb k bC dr x6).bind fun x7=>cond (decide (x7.1=10)) ((oD k (iJ aC)).bind fun x8=>(pG k x7.2.1 x7.2.2 x8).bind fun x9=>cond (decide (x9.1=0)) ((zb k x9.2.1 x9.2.2 x6).bind fun bV=>some (bV.1,aC,bV.2.1,bV.2.2))<|some (x9.1,aC,x9.2.1,x9.2.2))<|some (x7.1,aC,x7.2.1,x7.2.2)
def NF (k:Nat)(aC:iO)(bC:wA)(dr:wZ)(a1:Int)(a2:AC):Option ((List zW)×iO×wA×wZ):=
 cond aC.2.2.2.2.2.2.2.2.2.2.2.2.2.2.2.2.2 (some ([],aC,bC,dr))<|(uK k a2).bind fun x0=>cond (!(decide (x0.2=0))) ((NG k a1 x0.2).bind fun x1=>some (x1,aC,bC,dr))<|(H7 k (yC aC) (iJ aC) (a1,x0.1)).bind fun x2=>cond (!(decide (x2.2.2=0))) ((NG k a1 x2.2.2).bind fun x3=>some (x3,aC,bC,dr))<|cond (decide (x0.1.1=9)) (some (x2.2.1,aC,bC,dr))<|(SE k aC bC dr (a1,x0.1)).bind fun x4=>cond (decide (x4.1=0)) (cond (decide (x4.2.2.1.2.2.1≥x4.2.1.2.2.2.2.2.2.2.2.2.2.2.2.2.2.2.2.1)) ((oD k x2.1).bind fun x5=>(pG k x4.2.2.1 x4.2.2.2 x5).bind fun x6=>cond (decide (x6.1=11)) (some (x2.2.1,(fL x4.2.1 (vD x2.1 (x4.2.1.2.2.2.2.2.2.2.2.2.2.2.2.2.2.2.2.1,true))),x6.2.1,x6.2.2))<|some (x2.2.1,(fL x4.2.1 (vD x2.1 x4.2.1.2.2.2.2.2.2.2.2.2.2.2.2.2.2.2.2)),x6.2.1,x6.2.2))<|some (x2.2.1,(fL x4.2.1 (vD x2.1 x4.2.1.2.2.2.2.2.2.2.2.2.2.2.2.2.2.2.2)),x4.2.2.1,x4.2.2.2))<|cond (decide (x4.1=10)) ((NG k a1 10).bind fun x7=>some (x7,x4.2.1,x4.2.2.1,x4.2.2.2))<|some ([],(yL x4.2.1 true),x4.2.2.1,x4.2.2.2)
abbrev qWr:Type:=List zW→Int→Option (Unit⊕Bool)
def IW (k:Nat)(rec:qWr):qWr:=fun s0 s3=>
 cond (decide (s3<s0.length)) (cond (zB s3 s0.length) (cond (decide ((s0.getD s3.toNat ana).2.1=16)) (some (.inr true))<|rec s0 (zA (s3+1))) none)<|some (.inl ())
def NM (k:Nat):Nat→qWr:=qY (fun _ _=>none) (IW k)
def SF (k:Nat)(a0:List zW):Option Bool:=
 (NM k k a0 0).bind fun z=>match z with
 |.inl z1=>some false
 |.inr z2=>some z2
def Dp (k:Nat)(a0:wZ)(a1:vW):Option wZ:=
 some (jF a0 (a1.1,a1.2,true,a0.2.2.2.2.2.2.2.2.2))
def AB (k:Nat)(a0:wZ):Option wZ:=
 cond ((decide (0≤a0.2.2.1))&&(decide (a0.2.2.1≤a0.1.length))) (cond ((decide (0≤a0.2.2.2.1))&&(decide (a0.2.2.2.1≤a0.2.1.length))) (some ((List.take (a0.2.2.1.toNat-0) a0.1),(List.take (a0.2.2.2.1.toNat-0) a0.2.1),a0.2.2.1,a0.2.2.2.1,a0.2.2.2.2.1,0,a0.2.2.2.2.2.2.1,a0.2.2.2.2.2.2.2.1,false,false)) none) none
abbrev SY:Type:=(fO×fO×(List (List zW))×(List zW))⊕(fO×fO×(List (List zW))×(List zW)×iO×wA×A0×AC×AC)
abbrev yAe:Type:=(Int×(List mQ)×Int×qW×fO×fO×(List (List zW))×(List zW)×A0×AC×AC×iO×wA)⊕(Int×(List mQ)×Int×qW×fO×fO×(List (List zW))×(List zW)×A0×AC×AC)→Option SY
def mK (k:Nat)(rec:yAe):yAe:=fun z=>match z with
 | .inl z=>cond (decide (z.2.2.1<z.2.1.length)) (cond (zB z.2.2.1 z.2.1.length) (cond (decide ((z.2.1.getD z.2.2.1.toNat aka).1=1)) ((NF k z.2.2.2.2.2.2.2.2.2.2.2.1 z.2.2.2.2.2.2.2.2.2.2.2.2 (z.2.2.2.2.2.2.2.2.2.1,z.2.2.2.2.2.2.2.2.2.2.1,z.2.2.2.2.2.2.2.2.1) (z.2.1.getD z.2.2.1.toNat aka).2.1 (z.2.1.getD z.2.2.1.toNat aka).2.2.1).bind fun x4=>(SF k x4.1).bind fun x5=>cond (!x5) (cond (decide ((x4.1.length : Int)>0)) ((uK k (z.2.1.getD z.2.2.1.toNat aka).2.2.1).bind fun x6=>cond (zL (z.2.2.2.2.2.2.2.1.length+1) 64) (let y0:List zW:=(z.2.2.2.2.2.2.2.1++[((z.2.1.getD z.2.2.1.toNat aka).2.1,x6.1)])
        cond (zL (z.2.2.2.2.2.2.1.length+1) 24) (rec (.inl (z.1,z.2.1,(zA (z.2.2.1+1)),z.2.2.2.1,z.2.2.2.2.1,z.2.2.2.2.2.1,(z.2.2.2.2.2.2.1++[x4.1]),y0,x4.2.2.2.2.2,x4.2.2.2.1,x4.2.2.2.2.1,x4.2.1,x4.2.2.1))) none) none)<|cond (!x4.2.1.2.2.2.2.2.2.2.2.2.2.2.2.2.2.2.2.2) ((uK k (z.2.1.getD z.2.2.1.toNat aka).2.2.1).bind fun x7=>cond (zL (z.2.2.2.2.2.2.2.1.length+1) 64) (let y1:List zW:=(z.2.2.2.2.2.2.2.1++[((z.2.1.getD z.2.2.1.toNat aka).2.1,x7.1)])
        cond (zL (z.2.2.2.2.2.2.1.length+1) 24) (rec (.inl (z.1,z.2.1,(zA (z.2.2.1+1)),z.2.2.2.1,z.2.2.2.2.1,z.2.2.2.2.2.1,(z.2.2.2.2.2.2.1++[x4.1]),y1,x4.2.2.2.2.2,x4.2.2.2.1,x4.2.2.2.2.1,x4.2.1,x4.2.2.1))) none) none)<|cond (zL (z.2.2.2.2.2.2.1.length+1) 24) (rec (.inl (z.1,z.2.1,(zA (z.2.2.1+1)),z.2.2.2.1,z.2.2.2.2.1,z.2.2.2.2.2.1,(z.2.2.2.2.2.2.1++[x4.1]),z.2.2.2.2.2.2.2.1,x4.2.2.2.2.2,x4.2.2.2.1,x4.2.2.2.2.1,x4.2.1,x4.2.2.1))) none)<|cond (zL (z.2.2.2.2.2.2.1.length+1) 24) (rec (.inl (z.1,z.2.1,(zA (z.2.2.1+1)),z.2.2.2.1,z.2.2.2.2.1,z.2.2.2.2.2.1,(z.2.2.2.2.2.2.1++[x4.1]),z.2.2.2.2.2.2.2.1,x4.2.2.2.2.2,x4.2.2.2.1,x4.2.2.2.2.1,x4.2.1,x4.2.2.1))) none)<|cond (decide ((z.2.1.getD z.2.2.1.toNat aka).1=2)) ((Dp k (z.2.2.2.2.2.2.2.2.2.1,z.2.2.2.2.2.2.2.2.2.2.1,z.2.2.2.2.2.2.2.2.1) (z.2.1.getD z.2.2.1.toNat aka).2.2.2).bind fun x8=>cond (zL (z.2.2.2.2.2.2.1.length+1) 24) (rec (.inl (z.1,z.2.1,(zA (z.2.2.1+1)),z.2.2.2.1,z.2.2.2.2.1,z.2.2.2.2.2.1,(z.2.2.2.2.2.2.1++[[]]),z.2.2.2.2.2.2.2.1,x8.2.2,x8.1,x8.2.1,z.2.2.2.2.2.2.2.2.2.2.2.1,z.2.2.2.2.2.2.2.2.2.2.2.2))) none)<|cond (decide ((z.2.1.getD z.2.2.1.toNat aka).1=3)) ((AB k (z.2.2.2.2.2.2.2.2.2.1,z.2.2.2.2.2.2.2.2.2.2.1,z.2.2.2.2.2.2.2.2.1)).bind fun x9=>(rD k z.2.2.2.1 x9 z.1).bind fun bV=>match bV with
     |.inl cw=>cond (zL (z.2.2.2.2.2.2.1.length+1) 24) (rec (.inl (z.1,z.2.1,(zA (z.2.2.1+1)),z.2.2.2.1,z.2.2.2.2.1,z.2.2.2.2.2.1,(z.2.2.2.2.2.2.1++[[]]),z.2.2.2.2.2.2.2.1,cw.2.1.2.2,cw.2.1.1,cw.2.1.2.1,cw.2.2.1,cw.2.2.2)))<|none
     |.inr fM=>cond (zL (z.2.2.2.2.2.2.1.length+1) 24) (rec (.inr (z.1,z.2.1,(zA (z.2.2.1+1)),z.2.2.2.1,z.2.2.2.2.1,z.2.2.2.2.2.1,(z.2.2.2.2.2.2.1++[[]]),z.2.2.2.2.2.2.2.1,fM.2.2.2,fM.2.1,fM.2.2.1))) none)<|cond (zL (z.2.2.2.2.2.2.1.length+1) 24) (rec (.inl (z.1,z.2.1,(zA (z.2.2.1+1)),z.2.2.2.1,z.2.2.2.2.1,z.2.2.2.2.2.1,(z.2.2.2.2.2.2.1++[[]]),z.2.2.2.2.2.2.2.1,z.2.2.2.2.2.2.2.2.1,z.2.2.2.2.2.2.2.2.2.1,z.2.2.2.2.2.2.2.2.2.2.1,z.2.2.2.2.2.2.2.2.2.2.2.1,z.2.2.2.2.2.2.2.2.2.2.2.2))) none) none)<|some (.inr (ajf z (z.2.2.2.2.2.2.2.2.2.2.2.1,z.2.2.2.2.2.2.2.2.2.2.2.2,z.2.2.2.2.2.2.2.2.1,z.2.2.2.2.2.2.2.2.2.1,z.2.2.2.2.2.2.2.2.2.2.1)))
 | .inr z1=>cond (decide (z1.2.2.1<z1.2.1.length)) (cond (zB z1.2.2.1 z1.2.1.length) (cond (decide ((z1.2.1.getD z1.2.2.1.toNat aka).1=1)) (cond (decide ((z1.2.1.getD z1.2.2.1.toNat aka).1=2)) ((Dp k (z1.2.2.2.2.2.2.2.2.2.1,z1.2.2.2.2.2.2.2.2.2.2,z1.2.2.2.2.2.2.2.2.1) (z1.2.1.getD z1.2.2.1.toNat aka).2.2.2).bind fun gj=>cond (zL (z1.2.2.2.2.2.2.1.length+1) 24) (rec (.inr (z1.1,z1.2.1,(zA (z1.2.2.1+1)),z1.2.2.2.1,z1.2.2.2.2.1,z1.2.2.2.2.2.1,(z1.2.2.2.2.2.2.1++[[]]),z1.2.2.2.2.2.2.2.1,gj.2.2,gj.1,gj.2.1))) none)<|cond (decide ((z1.2.1.getD z1.2.2.1.toNat aka).1=3)) ((AB k (z1.2.2.2.2.2.2.2.2.2.1,z1.2.2.2.2.2.2.2.2.2.2,z1.2.2.2.2.2.2.2.2.1)).bind fun kB=>(rD k z1.2.2.2.1 kB z1.1).bind fun bG=>match bG with
      |.inl iK=>cond (zL (z1.2.2.2.2.2.2.1.length+1) 24) (rec (.inl (z1.1,z1.2.1,(zA (z1.2.2.1+1)),z1.2.2.2.1,z1.2.2.2.2.1,z1.2.2.2.2.2.1,(z1.2.2.2.2.2.2.1++[[]]),z1.2.2.2.2.2.2.2.1,iK.2.1.2.2,iK.2.1.1,iK.2.1.2.1,iK.2.2.1,iK.2.2.2)))<|none
      |.inr cc=>cond (zL (z1.2.2.2.2.2.2.1.length+1) 24) (rec (.inr (z1.1,z1.2.1,(zA (z1.2.2.1+1)),z1.2.2.2.1,z1.2.2.2.2.1,z1.2.2.2.2.2.1,(z1.2.2.2.2.2.2.1++[[]]),z1.2.2.2.2.2.2.2.1,cc.2.2.2,cc.2.1,cc.2.2.1))) none)<|cond (zL (z1.2.2.2.2.2.2.1.length+1) 24) (rec (.inr (z1.1,z1.2.1,(zA (z1.2.2.1+1)),z1.2.2.2.1,z1.2.2.2.2.1,z1.2.2.2.2.2.1,(z1.2.2.2.2.2.2.1++[[]]),z1.2.2.2.2.2.2.2.1,z1.2.2.2.2.2.2.2.2.1,z1.2.2.2.2.2.2.2.2.2.1,z1.2.2.2.2.2.2.2.2.2.2))) none)<|cond (decide ((z1.2.1.getD z1.2.2.1.toNat aka).1=2)) ((Dp k (z1.2.2.2.2.2.2.2.2.2.1,z1.2.2.2.2.2.2.2.2.2.2,z1.2.2.2.2.2.2.2.2.1) (z1.2.1.getD z1.2.2.1.toNat aka).2.2.2).bind fun lz=>cond (zL (z1.2.2.2.2.2.2.1.length+1) 24) (rec (.inr (z1.1,z1.2.1,(zA (z1.2.2.1+1)),z1.2.2.2.1,z1.2.2.2.2.1,z1.2.2.2.2.2.1,(z1.2.2.2.2.2.2.1++[[]]),z1.2.2.2.2.2.2.2.1,lz.2.2,lz.1,lz.2.1))) none)<|cond (decide ((z1.2.1.getD z1.2.2.1.toNat aka).1=3)) ((AB k (z1.2.2.2.2.2.2.2.2.2.1,z1.2.2.2.2.2.2.2.2.2.2,z1.2.2.2.2.2.2.2.2.1)).bind fun rS=>(rD k z1.2.2.2.1 rS z1.1).bind fun ik=>match ik with
     |.inl lA=>cond (zL (z1.2.2.2.2.2.2.1.length+1) 24) (rec (.inl (z1.1,z1.2.1,(zA (z1.2.2.1+1)),z1.2.2.2.1,z1.2.2.2.2.1,z1.2.2.2.2.2.1,(z1.2.2.2.2.2.2.1++[[]]),z1.2.2.2.2.2.2.2.1,lA.2.1.2.2,lA.2.1.1,lA.2.1.2.1,lA.2.2.1,lA.2.2.2)))<|none
     |.inr wv=>cond (zL (z1.2.2.2.2.2.2.1.length+1) 24) (rec (.inr (z1.1,z1.2.1,(zA (z1.2.2.1+1)),z1.2.2.2.1,z1.2.2.2.2.1,z1.2.2.2.2.2.1,(z1.2.2.2.2.2.2.1++[[]]),z1.2.2.2.2.2.2.2.1,wv.2.2.2,wv.2.1,wv.2.2.1))) none)<|cond (zL (z1.2.2.2.2.2.2.1.length+1) 24) (rec (.inr (z1.1,z1.2.1,(zA (z1.2.2.1+1)),z1.2.2.2.1,z1.2.2.2.2.1,z1.2.2.2.2.2.1,(z1.2.2.2.2.2.2.1++[[]]),z1.2.2.2.2.2.2.2.1,z1.2.2.2.2.2.2.2.2.1,z1.2.2.2.2.2.2.2.2.2.1,z1.2.2.2.2.2.2.2.2.2.2))) none) none)<|some (.inl (vTp z1))
def rG (k:Nat):Nat→yAe:=qY (fun _=>none) (mK k)
def SG (k:Nat)(a0:qW)(a1 a2:Int)(a3:List mQ):Option ((List (List zW))×(List zW)×Int×(List zK)×EQ×AC×EQ×AC×EQ×(List zD)×AC×Int×Bool×Bool):=
 (qVy k a1).bind fun x0=>match x0 with
 |.inl x1=>(rD k a0 x1 a2).bind fun x2=>match x2 with
  |.inl x3=>cond (!(decide (x3.1=0))) (some ([],[],0,[],[],[],[],[],[],[],[],0,false,false))<|(rG k k (.inl (a2,a3,0,a0,(0,0,false,false),(0,0,false,false),[],[],x3.2.1.2.2,x3.2.1.1,x3.2.1.2.1,x3.2.2.1,x3.2.2.2))).bind fun z2=>match z2 with
   |.inl z3=>some (z3.2.2.1,z3.2.2.2,z3.2.1.1,[],[],[],[],[],[],[],[],z3.2.1.2)
   |.inr z4=>some (z4.2.2.1,z4.2.2.2.1,(qQ2 z4.2.2.2.2.1 (!z4.2.2.2.2.1.2.2.2.2.2.2.2.2.2.2.2.2.2.2.2.2.2)))
  |.inr Jo=>cond (!(decide (Jo.1=0))) (some ([],[],0,[],[],[],[],[],[],[],[],0,false,false))<|(rG k k (.inr (a2,a3,0,a0,(0,0,false,false),(0,0,false,false),[],[],Jo.2.2.2,Jo.2.1,Jo.2.2.1))).bind fun z5=>match z5 with
   |.inl z6=>some (z6.2.2.1,z6.2.2.2,z6.2.1.1,[],[],[],[],[],[],[],[],z6.2.1.2)
   |.inr z7=>some (z7.2.2.1,z7.2.2.2.1,(qQ2 z7.2.2.2.2.1 (!z7.2.2.2.2.1.2.2.2.2.2.2.2.2.2.2.2.2.2.2.2.2.2)))
 |.inr Ox=>some ([],[],0,[],[],[],[],[],[],[],[],0,false,false)
abbrev qWm:Type:=List zW→List zW→Int→Option (Unit⊕Bool)
def IZ (k:Nat)(rec:qWm):qWm:=fun s0 s1 s5=>
 cond (decide (s5<s0.length)) (cond (zB s5 s0.length) (cond (zB s5 s1.length) (cond (!((decide ((s0.getD s5.toNat ana).1=(s1.getD s5.toNat ana).1))&&((decide ((s0.getD s5.toNat ana).2.1=(s1.getD s5.toNat ana).2.1))&&((decide ((s0.getD s5.toNat ana).2.2.1=(s1.getD s5.toNat ana).2.2.1))&&((decide ((s0.getD s5.toNat ana).2.2.2.1=(s1.getD s5.toNat ana).2.2.2.1))&&((decide ((s0.getD s5.toNat ana).2.2.2.2.1=(s1.getD s5.toNat ana).2.2.2.2.1))&&((decide ((s0.getD s5.toNat ana).2.2.2.2.2.1=(s1.getD s5.toNat ana).2.2.2.2.2.1))&&((decide ((s0.getD s5.toNat ana).2.2.2.2.2.2.1=(s1.getD s5.toNat ana).2.2.2.2.2.2.1))&&(decide ((s0.getD s5.toNat ana).2.2.2.2.2.2.2=(s1.getD s5.toNat ana).2.2.2.2.2.2.2)))))))))) (some (.inr false))<|rec s0 s1 (zA (s5+1))) none) none)<|some (.inl ())
def NP (k:Nat):Nat→qWm:=qY (fun _ _ _=>none) (IZ k)
def SH (k:Nat)(a0 a1:List zW):Option Bool:=
 cond (!(decide ((a0.length:Int)=(a1.length:Int)))) (some false)<|(NP k k a0 a1 0).bind fun z=>match z with
 |.inl z1=>some true
 |.inr z2=>some z2
abbrev qWo:Type:=AC→AC→Int→Option (Unit⊕Bool)
def Fu (k:Nat)(rec:qWo):qWo:=fun s0 s1 s5=>
 cond (decide (s5<s0.length)) (cond (zB s5 s0.length) (cond (zB s5 s1.length) (cond (!(decide ((s0.getD s5.toNat 0)=(s1.getD s5.toNat 0)))) (some (.inr false))<|rec s0 s1 (zA (s5+1))) none) none)<|some (.inl ())
def Lg (k:Nat):Nat→qWo
 |0,_,_,_=>none
 |n+1,s0,s1,s5=>Fu k (Lg k n) s0 s1 s5
def uL (k:Nat)(a0 a1:AC):Option Bool:=
 cond (!(decide ((a0.length:Int)=(a1.length:Int)))) (some false)<|(Lg k k a0 a1 0).bind fun z=>match z with
 |.inl z1=>some true
 |.inr z2=>some z2
abbrev yCq:Type:=EQ→EQ→Int→Option (Unit⊕Bool)
def Fv (k:Nat)(rec:yCq):yCq:=fun s0 s1 s5=>
 cond (decide (s5<s0.length)) (cond (zB s5 s0.length) (cond (zB s5 s1.length) ((uL k (s0.getD s5.toNat []) (s1.getD s5.toNat [])).bind fun x0=>cond (!x0) (some (.inr false))<|rec s0 s1 (zA (s5+1))) none) none)<|some (.inl ())
def Lh (k:Nat):Nat→yCq
 |0,_,_,_=>none
 |n+1,s0,s1,s5=>Fv k (Lh k n) s0 s1 s5
def B8 (k:Nat)(a0 a1:EQ):Option Bool:=
 cond (!(decide ((a0.length:Int)=(a1.length:Int)))) (some false)<|(Lh k k a0 a1 0).bind fun z=>match z with
 |.inl z1=>some true
 |.inr z2=>some z2
abbrev yDh:Type:=Int→List zK→EQ→AC→EQ→List zK→EQ→AC→EQ→Option (Unit⊕Bool)
def Fw (k:Nat)(rec:yDh):yDh:=fun s5 af ai aj ah aw aD aE aG=>
 cond (decide (s5<af.length)) (cond (zB s5 af.length) (cond (zB s5 aw.length) (cond (!((decide ((af.getD s5.toNat ala).1=(aw.getD s5.toNat ala).1))&&((decide ((af.getD s5.toNat ala).2.1=(aw.getD s5.toNat ala).2.1))&&(decide ((af.getD s5.toNat ala).2.2=(aw.getD s5.toNat ala).2.2))))) (some (.inr false))<|rec (zA (s5+1)) af ai aj ah aw aD aE aG) none) none)<|some (.inl ())
def Lj (k:Nat):Nat→yDh
 |0,_,_,_,_,_,_,_,_,_=>none
 |n+1,s5,af,ai,aj,ah,aw,aD,aE,aG=>Fw k (Lj k n) s5 af ai aj ah aw aD aE aG
def Li (k:Nat)(au:List zK)(aB:EQ)(az:AC)(ax:EQ)(cW:List zK)(jo:EQ)(jq:AC)(jt:EQ):Option Bool:=
 cond (!(decide ((au.length:Int)=(cW.length:Int)))) (some false)<|(B8 k aB jo).bind fun x0=>cond (!x0) (some false)<|(B8 k ax jt).bind fun x1=>cond (!x1) (some false)<|(uL k az jq).bind fun x2=>cond (!x2) (some false)<|(Lj k k 0 au aB az ax cW jo jq jt).bind fun z=>match z with
 |.inl z1=>some true
 |.inr z2=>some z2
abbrev qU1:Type:=List zD→List zD→Int→Option (Unit⊕Bool)
def H9 (k:Nat)(rec:qU1):qU1:=fun s0 s1 s5=>
 cond (decide (s5<s0.length)) (cond (zB s5 s0.length) (cond (zB s5 s1.length) (cond (!((decide ((s0.getD s5.toNat ama).1=(s1.getD s5.toNat ama).1))&&((decide ((s0.getD s5.toNat ama).2.1=(s1.getD s5.toNat ama).2.1))&&((decide ((s0.getD s5.toNat ama).2.2.1=(s1.getD s5.toNat ama).2.2.1))&&((decide ((s0.getD s5.toNat ama).2.2.2.1=(s1.getD s5.toNat ama).2.2.2.1))&&((decide ((s0.getD s5.toNat ama).2.2.2.2.1=(s1.getD s5.toNat ama).2.2.2.2.1))&&((decide ((s0.getD s5.toNat ama).2.2.2.2.2.1=(s1.getD s5.toNat ama).2.2.2.2.2.1))&&(decide ((s0.getD s5.toNat ama).2.2.2.2.2.2=(s1.getD s5.toNat ama).2.2.2.2.2.2))))))))) (some (.inr false))<|rec s0 s1 (zA (s5+1))) none) none)<|some (.inl ())
def Nc (k:Nat):Nat→qU1
 |0,_,_,_=>none
 |n+1,s0,s1,s5=>H9 k (Nc k n) s0 s1 s5
def Nb (k:Nat)(a0 a1:List zD):Option Bool:=
 cond (!(decide ((a0.length:Int)=(a1.length:Int)))) (some false)<|(Nc k k a0 a1 0).bind fun z=>match z with
 |.inl z1=>some true
 |.inr z2=>some z2
def v9 (k:Nat)(a0 a1:yA):Option Bool:=
 cond (decide (a0.1=a1.1)) (cond (decide (a0.2.2.2.2.2.2.2.2.2.1=a1.2.2.2.2.2.2.2.2.2.1)) (cond (iR a0.2.2.2.2.2.2.2.2.2.2 a1.2.2.2.2.2.2.2.2.2.2) ((Li k a0.2.1 a0.2.2.1 a0.2.2.2.1 a0.2.2.2.2.1 a1.2.1 a1.2.2.1 a1.2.2.2.1 a1.2.2.2.2.1).bind fun x0=>cond x0 ((uL k a0.2.2.2.2.2.1 a1.2.2.2.2.2.1).bind fun x1=>cond x1 ((B8 k a0.2.2.2.2.2.2.1 a1.2.2.2.2.2.2.1).bind fun x2=>cond x2 ((Nb k a0.2.2.2.2.2.2.2.1 a1.2.2.2.2.2.2.2.1).bind fun x3=>cond x3 ((uL k a0.2.2.2.2.2.2.2.2.1 a1.2.2.2.2.2.2.2.2.1).bind fun x4=>some x4)<|some false)<|some false)<|some false)<|some false)<|some false)<|some false)<|some false
def G3 (k:Nat)(rec:qWm):qWm:=fun s0 s1 s5=>
 cond (decide (s5<s0.length)) (cond (zB s5 s0.length) (cond (zB s5 s1.length) (cond (!((decide ((s0.getD s5.toNat ana).1=(s1.getD s5.toNat ana).1))&&((decide ((s0.getD s5.toNat ana).2.1=(s1.getD s5.toNat ana).2.1))&&((decide ((s0.getD s5.toNat ana).2.2.1=(s1.getD s5.toNat ana).2.2.1))&&((decide ((s0.getD s5.toNat ana).2.2.2.1=(s1.getD s5.toNat ana).2.2.2.1))&&((decide ((s0.getD s5.toNat ana).2.2.2.2.1=(s1.getD s5.toNat ana).2.2.2.2.1))&&((decide ((s0.getD s5.toNat ana).2.2.2.2.2.1=(s1.getD s5.toNat ana).2.2.2.2.2.1))&&((decide ((s0.getD s5.toNat ana).2.2.2.2.2.2.1=(s1.getD s5.toNat ana).2.2.2.2.2.2.1))&&(decide ((s0.getD s5.toNat ana).2.2.2.2.2.2.2=(s1.getD s5.toNat ana).2.2.2.2.2.2.2)))))))))) (some (.inr false))<|rec s0 s1 (zA (s5+1))) none) none)<|some (.inl ())
def Mt (k:Nat):Nat→qWm
 |0,_,_,_=>none
 |n+1,s0,s1,s5=>G3 k (Mt k n) s0 s1 s5
def Ms (k:Nat)(a0 a1:List zW):Option Bool:=
 cond (!(decide ((a0.length:Int)=(a1.length:Int)))) (some false)<|(Mt k k a0 a1 0).bind fun z=>match z with
 |.inl z1=>some true
 |.inr z2=>some z2
def qPo (k:Nat):Option Bool:=
 (Dq k 0).bind fun x0=>(IY k x0 20000 10 []).bind fun x1=>cond x1.2.2.2.2.2.2.2.2.2.2.2.2.2 ((Dq k 0).bind fun x2=>(wh k x2).bind fun x3=>(v9 k (NR x1) x3).bind fun x4=>cond x4 (cond (decide ((zA ((x1.1.length : Int)+(x1.2.1.length : Int)))=0)) ((Dq k 0).bind fun x5=>(IY k x5 (-1) 10 []).bind fun x6=>some (!x6.2.2.2.2.2.2.2.2.2.2.2.2.2))<|some false)<|some false)<|some false
abbrev qP4:Type:=Int→Uh→List (List zW)→List zW→Uh→List (List zW)→List zW→Option (Unit⊕Bool)
def I3 (k:Nat)(rec:qP4):qP4:=fun bM b0 r1 r2 b3 r4 r5=>
 cond (decide (bM<r4.length)) (cond (zB bM r1.length) (cond (zB bM r4.length) ((Ms k (r1.getD bM.toNat []) (r4.getD bM.toNat [])).bind fun x6=>cond (!x6) (some (.inr false))<|rec (zA (bM+1)) b0 r1 r2 b3 r4 r5) none) none)<|some (.inl ())
def NQ (k:Nat):Nat→qP4:=qY (fun _ _ _ _ _ _ _=>none) (I3 k)
def SJ (k:Nat)(a0 a1 a2:Int)(a3:List mQ):Option Bool:=
 (SI k a3).bind fun x0=>cond x0 (some true)<|(Dq k a0).bind fun x1=>(IY k x1 a1 a2 a3).bind fun x2=>(SG k x1 a1 a2 a3).bind fun x3=>cond (!(decide ((x2.1.length:Int)=(x3.1.length:Int)))) (some false)<|(SH k x2.2.1 x3.2.1).bind fun x4=>cond (!x4) (some false)<|cond (!(iR x2.2.2.2.2.2.2.2.2.2.2.2.2.2 x3.2.2.2.2.2.2.2.2.2.2.2.2.2)) (some false)<|(v9 k (NR x2) (NR x3)).bind fun x5=>cond (!x5) (some false)<|(NQ k k 0 x2.2.2 x2.1 x2.2.1 x3.2.2 x3.1 x3.2.1).bind fun z=>match z with
 |.inl z1=>(qPo k).bind fun x7=>some x7
 |.inr z2=>some z2
end Go.Ab.Gi
